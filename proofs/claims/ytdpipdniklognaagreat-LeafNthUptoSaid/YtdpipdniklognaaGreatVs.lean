/- The program's LeafNth returns true for all numbers that describe a book and all lists of Ids, without an exception and without changing its arguments: a part of the proof. -/
import Derived.Test.YtdpipdniklognaaGreatVq
set_option linter.all false
/- Statements of sane, run by the kernel. -/
set_option maxRecDepth 100000
namespace Go.Proofs.YtdpipdniklognaaGreat
section
theorem pc7:z0z sG.E 100000 (z0S sCodes 7) (frL 165 lt6) (stL 1995 lh6) 165 lt7 2180 lh7=true:=by kernel_rfl
theorem pc8:z0z sG.E 100000 (z0S sCodes 8) (frL 165 lt7) (stL 2180 lh7) 165 lt8 4141 lh8=true:=by kernel_rfl
end
end Go.Proofs.YtdpipdniklognaaGreat
