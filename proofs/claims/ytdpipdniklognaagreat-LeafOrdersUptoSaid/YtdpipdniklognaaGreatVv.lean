/- The program's LeafOrders returns true for all heaps, papers, numbers, orders and holes, valid or not, without an exception and without changing its arguments: a part of the proof. -/
import Derived.Test.YtdpipdniklognaaGreatVq
set_option linter.all false
/- Statements of sane, run by the kernel. -/
set_option maxRecDepth 100000
namespace Go.Proofs.YtdpipdniklognaaGreat
theorem zoX:z0B sG.E 100000 (z0U sCodes 13) (frL 165 znU) (stL 12204 zo0) 165 znT 14574 znZ=true:=by kernel_rfl
end Go.Proofs.YtdpipdniklognaaGreat
/- Statements of sane, run by the kernel. -/
set_option maxRecDepth 100000
namespace Go.Proofs.YtdpipdniklognaaGreat
theorem zoW:z0B sG.E 100000 (z0U sCodes 14) (frL 165 znT) (stL 14574 znZ) 165 znS 14574 znY=true:=by kernel_rfl
theorem zoV:z0B sG.E 100000 (z0U sCodes 15) (frL 165 znS) (stL 14574 znY) 165 znR 14576 znX=true:=by kernel_rfl
theorem zoU:z0B sG.E 100000 (z0U sCodes 16) (frL 165 znR) (stL 14576 znX) 165 zoG 14580 zoH=true:=by kernel_rfl
end Go.Proofs.YtdpipdniklognaaGreat
