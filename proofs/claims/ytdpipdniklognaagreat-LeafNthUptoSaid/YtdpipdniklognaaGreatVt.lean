/- The program's LeafNth returns true for all numbers that describe a book and all lists of Ids, without an exception and without changing its arguments: a part of the proof. -/
import Derived.Test.YtdpipdniklognaaGreatVq
set_option linter.all false
/- Statements of sane, run by the kernel. -/
set_option maxRecDepth 100000
namespace Go.Proofs.YtdpipdniklognaaGreat
section
theorem pc9:z0z sG.E 100000 (z0S sCodes 9) (frL 165 lt8) (stL 4141 lh8) 165 lt9 6118 lh9=true:=by kernel_rfl
theorem zrT:z0z sG.E 100000 (z0S sCodes 10) (frL 165 lt9) (stL 6118 lh9) 165 zqM 8117 zqS=true:=by kernel_rfl
end
end Go.Proofs.YtdpipdniklognaaGreat
