/- The program's LeafConflicts returns true for all heaps, papers and lists of holes, valid or not, without an exception and without changing its arguments: a part of the proof. -/
import Derived.Test.YtdpipdniklognaaGreatVq
set_option linter.all false
/- Statements of sane, run by the kernel. -/
set_option maxRecDepth 100000
namespace Go.Proofs.YtdpipdniklognaaGreat
theorem zqa:z0z sG.E 100000 (z0Z sCodes 11) (frL 165 zp4) (stL 8117 zpa) 165 zp3 10087 zp9=true:=by kernel_rfl
end Go.Proofs.YtdpipdniklognaaGreat
/- Statements of sane, run by the kernel. -/
set_option maxRecDepth 100000
namespace Go.Proofs.YtdpipdniklognaaGreat
theorem zq9:z0z sG.E 100000 (z0Z sCodes 12) (frL 165 zp3) (stL 10087 zp9) 165 zp2 12204 zp8=true:=by kernel_rfl
end Go.Proofs.YtdpipdniklognaaGreat
