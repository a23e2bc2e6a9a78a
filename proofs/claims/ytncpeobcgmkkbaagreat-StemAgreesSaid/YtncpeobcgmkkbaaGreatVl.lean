/- The program's StemAgrees returns true for every stem, one and number, valid or not, without an exception and without changing its arguments: a part of the proof. -/
import Derived.Test.YtncpeobcgmkkbaaGreatVg
set_option linter.all false
/- Statements of sane, run by the kernel. -/
set_option maxRecDepth 100000
namespace Go.Proofs.YtncpeobcgmkkbaaGreat
theorem pc14:pieceOk sG.E 100000 (codeAt sCodes 14) (frL 202 lt13) (stL 3552 lh13) 202 lt14 3833 lh14=true:=by kernel_rfl
theorem pc15:pieceOk sG.E 100000 (codeAt sCodes 15) (frL 202 lt14) (stL 3833 lh14) 202 lt15 3833 lh15=true:=by kernel_rfl
theorem pc16:pieceOk sG.E 100000 (codeAt sCodes 16) (frL 202 lt15) (stL 3833 lh15) 202 lt16 4653 lh16=true:=by kernel_rfl
end Go.Proofs.YtncpeobcgmkkbaaGreat
