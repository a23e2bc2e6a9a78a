/- The program's StemAgrees returns true for every stem, one and number, valid or not, without an exception and without changing its arguments: a part of the proof. -/
import Derived.Test.YtncpeobcgmkkbaaGreatVg
set_option linter.all false
/- Statements of sane, run by the kernel. -/
set_option maxRecDepth 100000
namespace Go.Proofs.YtncpeobcgmkkbaaGreat
theorem pc9:pieceOk sG.E 100000 (codeAt sCodes 9) (frL 202 lt8) (stL 2655 lh8) 202 lt9 2955 lh9=true:=by kernel_rfl
theorem pc10:pieceOk sG.E 100000 (codeAt sCodes 10) (frL 202 lt9) (stL 2955 lh9) 202 lt10 3255 lh10=true:=by kernel_rfl
theorem pc11:pieceOk sG.E 100000 (codeAt sCodes 11) (frL 202 lt10) (stL 3255 lh10) 202 lt11 3550 lh11=true:=by kernel_rfl
theorem pc12:pieceOk sG.E 100000 (codeAt sCodes 12) (frL 202 lt11) (stL 3550 lh11) 202 lt12 3551 lh12=true:=by kernel_rfl
theorem pc13:pieceOk sG.E 100000 (codeAt sCodes 13) (frL 202 lt12) (stL 3551 lh12) 202 lt13 3552 lh13=true:=by kernel_rfl
end Go.Proofs.YtncpeobcgmkkbaaGreat
