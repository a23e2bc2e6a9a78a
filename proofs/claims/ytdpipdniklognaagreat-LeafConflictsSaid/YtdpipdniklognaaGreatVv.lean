/- The program's LeafConflicts returns true for all heaps, papers and lists of holes, valid or not, without an exception and without changing its arguments: a part of the proof. -/
import Derived.Test.YtdpipdniklognaaGreatVq
set_option linter.all false
/- Statements of sane, run by the kernel. -/
set_option maxRecDepth 100000
namespace Go.Proofs.YtdpipdniklognaaGreat
theorem zq8:z0z sG.E 100000 (z0Z sCodes 13) (frL 165 zp2) (stL 12204 zp8) 165 zp1 14574 zp7=true:=by kernel_rfl
end Go.Proofs.YtdpipdniklognaaGreat
/- Statements of sane, run by the kernel. -/
set_option maxRecDepth 100000
namespace Go.Proofs.YtdpipdniklognaaGreat
theorem zq7:z0z sG.E 100000 (z0Z sCodes 14) (frL 165 zp1) (stL 14574 zp7) 165 zp0 14574 zp6=true:=by kernel_rfl
theorem zq6:z0z sG.E 100000 (z0Z sCodes 15) (frL 165 zp0) (stL 14574 zp6) 165 zoZ 14576 zp5=true:=by kernel_rfl
theorem zq5:z0z sG.E 100000 (z0Z sCodes 16) (frL 165 zoZ) (stL 14576 zp5) 165 zpP 14580 zpQ=true:=by kernel_rfl
end Go.Proofs.YtdpipdniklognaaGreat
