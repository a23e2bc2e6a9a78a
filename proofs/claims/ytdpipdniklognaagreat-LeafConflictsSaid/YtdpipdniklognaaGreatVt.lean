/- The program's LeafConflicts returns true for all heaps, papers and lists of holes, valid or not, without an exception and without changing its arguments: a part of the proof. -/
import Derived.Test.YtdpipdniklognaaGreatVq
set_option linter.all false
/- Statements of sane, run by the kernel. -/
set_option maxRecDepth 100000
namespace Go.Proofs.YtdpipdniklognaaGreat
theorem pc9:z0z sG.E 100000 (z0Z sCodes 9) (frL 165 lt8) (stL 4141 lh8) 165 lt9 6118 lh9=true:=by kernel_rfl
end Go.Proofs.YtdpipdniklognaaGreat
/- Statements of sane, run by the kernel. -/
set_option maxRecDepth 100000
namespace Go.Proofs.YtdpipdniklognaaGreat
theorem zqb:z0z sG.E 100000 (z0Z sCodes 10) (frL 165 lt9) (stL 6118 lh9) 165 zp4 8117 zpa=true:=by kernel_rfl
end Go.Proofs.YtdpipdniklognaaGreat
