/- The program's LeafChecks returns true for all heaps, sheets, papers and Ids, valid or not, without an exception and without changing its arguments: a part of the proof. -/
import Derived.Test.YtdpipdniklognaaGreatVq
set_option linter.all false
/- Statements of sane, run by the kernel. -/
set_option maxRecDepth 100000
namespace Go.Proofs.YtdpipdniklognaaGreat
theorem pc11:pieceOk sG.E 100000 (codeAt sCodes 11) (frL 165 lt10) (stL 8117 lh10) 165 lt11 10087 lh11=true:=by kernel_rfl
end Go.Proofs.YtdpipdniklognaaGreat
/- Statements of sane, run by the kernel. -/
set_option maxRecDepth 100000
namespace Go.Proofs.YtdpipdniklognaaGreat
theorem pc12:pieceOk sG.E 100000 (codeAt sCodes 12) (frL 165 lt11) (stL 10087 lh11) 165 lt12 12204 lh12=true:=by kernel_rfl
end Go.Proofs.YtdpipdniklognaaGreat
