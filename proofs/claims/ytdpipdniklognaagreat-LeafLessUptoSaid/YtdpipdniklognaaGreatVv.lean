/- The program's LeafLess returns true for all numbers that describe a book, all that is not known any more, and all numbers of an order, without an exception and without changing its arguments: a part of the proof. -/
import Derived.Test.YtdpipdniklognaaGreatVq
set_option linter.all false
/- Statements of sane, run by the kernel. -/
set_option maxRecDepth 100000
namespace Go.Proofs.YtdpipdniklognaaGreat
section
theorem zrI:z0y sG.E 100000 (z0O sCodes 13) (frL 165 zqC) (stL 12204 zqI) 165 zqB 14574 zqH=true:=by kernel_rfl
theorem zrH:z0y sG.E 100000 (z0O sCodes 14) (frL 165 zqB) (stL 14574 zqH) 165 zqA 14574 zqG=true:=by kernel_rfl
theorem zrG:z0y sG.E 100000 (z0O sCodes 15) (frL 165 zqA) (stL 14574 zqG) 165 zqz 14576 zqF=true:=by kernel_rfl
theorem zrF:z0y sG.E 100000 (z0O sCodes 16) (frL 165 zqz) (stL 14576 zqF) 165 zrs 14580 zrt=true:=by kernel_rfl
end
end Go.Proofs.YtdpipdniklognaaGreat
