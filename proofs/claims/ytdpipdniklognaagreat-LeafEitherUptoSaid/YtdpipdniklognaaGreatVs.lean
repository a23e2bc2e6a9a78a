/- The program's LeafEither returns true for all numbers that describe a book, all turns and all lists of holes, without an exception and without changing its arguments: a part of the proof. -/
import Derived.Test.YtdpipdniklognaaGreatVq
set_option linter.all false
/- Statements of sane, run by the kernel. -/
set_option maxRecDepth 100000
namespace Go.Proofs.YtdpipdniklognaaGreat
theorem pc7:z0y sG.E 100000 (z0V sCodes 7) (frL 165 lt6) (stL 1995 lh6) 165 lt7 2180 lh7=true:=by kernel_rfl
end Go.Proofs.YtdpipdniklognaaGreat
/- Statements of sane, run by the kernel. -/
set_option maxRecDepth 100000
namespace Go.Proofs.YtdpipdniklognaaGreat
theorem pc8:z0y sG.E 100000 (z0V sCodes 8) (frL 165 lt7) (stL 2180 lh7) 165 lt8 4141 lh8=true:=by kernel_rfl
end Go.Proofs.YtdpipdniklognaaGreat
