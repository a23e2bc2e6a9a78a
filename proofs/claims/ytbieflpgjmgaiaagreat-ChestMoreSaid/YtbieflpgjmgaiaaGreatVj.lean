/- The program's ChestMore returns true for all numbers without an exception and without changing its arguments: a part of the proof. -/
import Derived.Test.YtbieflpgjmgaiaaGreatVi
set_option linter.all false
/- Calls that are known, run by the kernel. -/
set_option maxRecDepth 100000
namespace Go.Proofs.YtbieflpgjmgaiaaGreat
theorem mo0:mm0.ok sG.E 100000=true:=by kernel_rfl
theorem mo1:mm1.ok sG.E 100000=true:=by kernel_rfl
end Go.Proofs.YtbieflpgjmgaiaaGreat
/- Calls that are known, run by the kernel. -/
set_option maxRecDepth 100000
namespace Go.Proofs.YtbieflpgjmgaiaaGreat
theorem mo2:mm2.ok sG.E 100000=true:=by kernel_rfl
theorem mo3:mm3.ok sG.E 100000=true:=by kernel_rfl
end Go.Proofs.YtbieflpgjmgaiaaGreat
