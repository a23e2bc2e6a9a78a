/- The program's LeafEither returns true for all numbers that describe a book, all turns and all lists of holes, without an exception and without changing its arguments: a part of the proof. -/
import Derived.Test.YtdpipdniklognaaGreatVq
set_option linter.all false
/- Statements of sane, run by the kernel. -/
set_option maxRecDepth 100000
namespace Go.Proofs.YtdpipdniklognaaGreat
theorem pc9:z0y sG.E 100000 (z0V sCodes 9) (frL 165 lt8) (stL 4141 lh8) 165 lt9 6118 lh9=true:=by kernel_rfl
end Go.Proofs.YtdpipdniklognaaGreat
/- Statements of sane, run by the kernel. -/
set_option maxRecDepth 100000
namespace Go.Proofs.YtdpipdniklognaaGreat
theorem zqs:z0y sG.E 100000 (z0V sCodes 10) (frL 165 lt9) (stL 6118 lh9) 165 zpj 8117 zpp=true:=by kernel_rfl
end Go.Proofs.YtdpipdniklognaaGreat
