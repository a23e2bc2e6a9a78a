/- The program's StemAgrees returns true for every stem, one and number, valid or not, without an exception and without changing its arguments: a part of the proof. -/
import Derived.Test.YtncpeobcgmkkbaaGreatVg
set_option linter.all false
/- Statements of sane, run by the kernel. -/
set_option maxRecDepth 100000
namespace Go.Proofs.YtncpeobcgmkkbaaGreat
theorem pc8:pieceOk sG.E 100000 (codeAt sCodes 8) (frL 202 lt7) (stL 1389 lh7) 202 lt8 2655 lh8=true:=by kernel_rfl
end Go.Proofs.YtncpeobcgmkkbaaGreat
