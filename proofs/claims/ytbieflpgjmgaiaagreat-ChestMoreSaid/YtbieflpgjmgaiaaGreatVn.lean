/- The program's ChestMore returns true for all numbers without an exception and without changing its arguments: a part of the proof. -/
import Derived.Test.YtbieflpgjmgaiaaGreatVi
set_option linter.all false
/- Statements of sane, run by the kernel. -/
set_option maxRecDepth 100000
namespace Go.Proofs.YtbieflpgjmgaiaaGreat
theorem pc8:pieceOk sG.E 100000 (codeAt sCodes 8) (frL 182 lt7) (stL 2865 lh7) 182 lt8 3384 lh8=true:=by kernel_rfl
end Go.Proofs.YtbieflpgjmgaiaaGreat
/- Statements of sane, run by the kernel. -/
set_option maxRecDepth 100000
namespace Go.Proofs.YtbieflpgjmgaiaaGreat
theorem pc9:pieceOk sG.E 100000 (codeAt sCodes 9) (frL 182 lt8) (stL 3384 lh8) 182 lt9 3986 lh9=true:=by kernel_rfl
theorem pc10:pieceOk sG.E 100000 (codeAt sCodes 10) (frL 182 lt9) (stL 3986 lh9) 182 lt10 4514 lh10=true:=by kernel_rfl
end Go.Proofs.YtbieflpgjmgaiaaGreat
