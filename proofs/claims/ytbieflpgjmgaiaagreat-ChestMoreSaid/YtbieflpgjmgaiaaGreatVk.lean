/- The program's ChestMore returns true for all numbers without an exception and without changing its arguments: a part of the proof. -/
import Derived.Test.YtbieflpgjmgaiaaGreatVi
set_option linter.all false
/- Calls that are known, run by the kernel. -/
set_option maxRecDepth 100000
namespace Go.Proofs.YtbieflpgjmgaiaaGreat
theorem mo4:mm4.ok sG.E 100000=true:=by kernel_rfl
theorem mo5:mm5.ok sG.E 100000=true:=by kernel_rfl
end Go.Proofs.YtbieflpgjmgaiaaGreat
/- Calls that are known, run by the kernel. -/
set_option maxRecDepth 100000
namespace Go.Proofs.YtbieflpgjmgaiaaGreat
theorem mo6:mm6.ok sG.E 100000=true:=by kernel_rfl
theorem mo7:mm7.ok sG.E 100000=true:=by kernel_rfl
end Go.Proofs.YtbieflpgjmgaiaaGreat
