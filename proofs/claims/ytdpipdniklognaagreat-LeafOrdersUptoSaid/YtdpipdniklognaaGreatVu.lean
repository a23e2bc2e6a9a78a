/- The program's LeafOrders returns true for all heaps, papers, numbers, orders and holes, valid or not, without an exception and without changing its arguments: a part of the proof. -/
import Derived.Test.YtdpipdniklognaaGreatVq
set_option linter.all false
/- Statements of sane, run by the kernel. -/
set_option maxRecDepth 100000
namespace Go.Proofs.YtdpipdniklognaaGreat
theorem zoZ:z0B sG.E 100000 (z0U sCodes 11) (frL 165 znW) (stL 8117 zo2) 165 znV 10087 zo1=true:=by kernel_rfl
end Go.Proofs.YtdpipdniklognaaGreat
/- Statements of sane, run by the kernel. -/
set_option maxRecDepth 100000
namespace Go.Proofs.YtdpipdniklognaaGreat
theorem zoY:z0B sG.E 100000 (z0U sCodes 12) (frL 165 znV) (stL 10087 zo1) 165 znU 12204 zo0=true:=by kernel_rfl
end Go.Proofs.YtdpipdniklognaaGreat
