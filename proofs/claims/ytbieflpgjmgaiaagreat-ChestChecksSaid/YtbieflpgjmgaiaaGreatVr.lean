/- The program's ChestChecks returns true for all openings, valid or not, without an exception and without changing its arguments: a part of the proof. -/
import Derived.Test.YtbieflpgjmgaiaaGreatVq
set_option linter.all false
/- Walks: the pairs, where some are barred. -/
set_option maxRecDepth 100000
namespace Go.Proofs.YtbieflpgjmgaiaaGreat
variable {r : Rm}
end Go.Proofs.YtbieflpgjmgaiaaGreat
