/- The program's LeafChecks returns true for all heaps, sheets, papers and Ids, valid or not, without an exception and without changing its arguments: a part of the proof. -/
import Derived.Test.YtdpipdniklognaaGreatVq
set_option linter.all false
/- Statements of sane, run by the kernel. -/
set_option maxRecDepth 100000
namespace Go.Proofs.YtdpipdniklognaaGreat
theorem pc13:pieceOk sG.E 100000 (codeAt sCodes 13) (frL 165 lt12) (stL 12204 lh12) 165 lt13 14574 lh13=true:=by kernel_rfl
end Go.Proofs.YtdpipdniklognaaGreat
/- Statements of sane, run by the kernel. -/
set_option maxRecDepth 100000
namespace Go.Proofs.YtdpipdniklognaaGreat
theorem pc14:pieceOk sG.E 100000 (codeAt sCodes 14) (frL 165 lt13) (stL 14574 lh13) 165 lt14 14574 lh14=true:=by kernel_rfl
theorem pc15:pieceOk sG.E 100000 (codeAt sCodes 15) (frL 165 lt14) (stL 14574 lh14) 165 lt15 14576 lh15=true:=by kernel_rfl
theorem pc16:pieceOk sG.E 100000 (codeAt sCodes 16) (frL 165 lt15) (stL 14576 lh15) 165 lt16 14580 lh16=true:=by kernel_rfl
end Go.Proofs.YtdpipdniklognaaGreat
