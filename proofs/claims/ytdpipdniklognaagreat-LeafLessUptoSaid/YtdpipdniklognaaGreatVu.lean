/- The program's LeafLess returns true for all numbers that describe a book, all that is not known any more, and all numbers of an order, without an exception and without changing its arguments: a part of the proof. -/
import Derived.Test.YtdpipdniklognaaGreatVq
set_option linter.all false
/- Statements of sane, run by the kernel. -/
set_option maxRecDepth 100000
namespace Go.Proofs.YtdpipdniklognaaGreat
section
theorem zrK:z0y sG.E 100000 (z0O sCodes 11) (frL 165 zqE) (stL 8117 zqK) 165 zqD 10087 zqJ=true:=by kernel_rfl
theorem zrJ:z0y sG.E 100000 (z0O sCodes 12) (frL 165 zqD) (stL 10087 zqJ) 165 zqC 12204 zqI=true:=by kernel_rfl
end
end Go.Proofs.YtdpipdniklognaaGreat
