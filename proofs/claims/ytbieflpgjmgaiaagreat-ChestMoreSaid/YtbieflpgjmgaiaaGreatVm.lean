/- The program's ChestMore returns true for all numbers without an exception and without changing its arguments: a part of the proof. -/
import Derived.Test.YtbieflpgjmgaiaaGreatVi
set_option linter.all false
/- Statements of sane, run by the kernel. -/
set_option maxRecDepth 100000
namespace Go.Proofs.YtbieflpgjmgaiaaGreat
theorem pc5:pieceOk sG.E 100000 (codeAt sCodes 5) (frL 182 lt4) (stL 1464 lh4) 182 lt5 1685 lh5=true:=by kernel_rfl
theorem pc6:pieceOk sG.E 100000 (codeAt sCodes 6) (frL 182 lt5) (stL 1685 lh5) 182 lt6 2176 lh6=true:=by kernel_rfl
end Go.Proofs.YtbieflpgjmgaiaaGreat
/- Statements of sane, run by the kernel. -/
set_option maxRecDepth 100000
namespace Go.Proofs.YtbieflpgjmgaiaaGreat
theorem pc7:pieceOk sG.E 100000 (codeAt sCodes 7) (frL 182 lt6) (stL 2176 lh6) 182 lt7 2865 lh7=true:=by kernel_rfl
end Go.Proofs.YtbieflpgjmgaiaaGreat
