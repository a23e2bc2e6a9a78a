/- The program's ChestMore returns true for all numbers without an exception and without changing its arguments: a part of the proof. -/
import Derived.Test.YtbieflpgjmgaiaaGreatVi
set_option linter.all false
/- Statements of sane, run by the kernel. -/
set_option maxRecDepth 100000
namespace Go.Proofs.YtbieflpgjmgaiaaGreat
theorem pc11:pieceOk sG.E 100000 (codeAt sCodes 11) (frL 182 lt10) (stL 4514 lh10) 182 lt11 5540 lh11=true:=by kernel_rfl
end Go.Proofs.YtbieflpgjmgaiaaGreat
/- Statements of sane, run by the kernel. -/
set_option maxRecDepth 100000
namespace Go.Proofs.YtbieflpgjmgaiaaGreat
theorem pc12:pieceOk sM 100000 (codeAt sCodes 12) (frL 182 lt11) (stL 5540 lh11) 182 lt12 5647 lh12=true:=by kernel_rfl
theorem pc13:pieceOk sG.E 100000 (codeAt sCodes 13) (frL 182 lt12) (stL 5647 lh12) 182 lt13 5647 lh13=true:=by kernel_rfl
theorem pc14:pieceOk sG.E 100000 (codeAt sCodes 14) (frL 182 lt13) (stL 5647 lh13) 182 lt14 5650 lh14=true:=by kernel_rfl
theorem pc15:pieceOk sG.E 100000 (codeAt sCodes 15) (frL 182 lt14) (stL 5650 lh14) 182 lt15 5653 lh15=true:=by kernel_rfl
theorem pc16:pieceOk sG.E 100000 (codeAt sCodes 16) (frL 182 lt15) (stL 5653 lh15) 182 lt16 5653 lh16=true:=by kernel_rfl
end Go.Proofs.YtbieflpgjmgaiaaGreat
