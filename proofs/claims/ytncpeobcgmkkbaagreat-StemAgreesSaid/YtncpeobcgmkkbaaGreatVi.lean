/- The program's StemAgrees returns true for every stem, one and number, valid or not, without an exception and without changing its arguments: a part of the proof. -/
import Derived.Test.YtncpeobcgmkkbaaGreatVg
set_option linter.all false
/- Statements of sane, run by the kernel. -/
set_option maxRecDepth 100000
namespace Go.Proofs.YtncpeobcgmkkbaaGreat
theorem pc6:pieceOk sG.E 100000 (codeAt sCodes 6) (frL 202 lt5) (stL 974 lh5) 202 lt6 1322 lh6=true:=by kernel_rfl
theorem pc7:pieceOk sG.E 100000 (codeAt sCodes 7) (frL 202 lt6) (stL 1322 lh6) 202 lt7 1389 lh7=true:=by kernel_rfl
end Go.Proofs.YtncpeobcgmkkbaaGreat
