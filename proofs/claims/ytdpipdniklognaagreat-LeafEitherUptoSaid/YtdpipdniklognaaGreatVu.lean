/- The program's LeafEither returns true for all numbers that describe a book, all turns and all lists of holes, without an exception and without changing its arguments: a part of the proof. -/
import Derived.Test.YtdpipdniklognaaGreatVq
set_option linter.all false
/- Statements of sane, run by the kernel. -/
set_option maxRecDepth 100000
namespace Go.Proofs.YtdpipdniklognaaGreat
theorem zqr:z0y sG.E 100000 (z0V sCodes 11) (frL 165 zpj) (stL 8117 zpp) 165 zpi 10087 zpo=true:=by kernel_rfl
end Go.Proofs.YtdpipdniklognaaGreat
/- Statements of sane, run by the kernel. -/
set_option maxRecDepth 100000
namespace Go.Proofs.YtdpipdniklognaaGreat
theorem zqq:z0y sG.E 100000 (z0V sCodes 12) (frL 165 zpi) (stL 10087 zpo) 165 zph 12204 zpn=true:=by kernel_rfl
end Go.Proofs.YtdpipdniklognaaGreat
