/- The program's LeafNth returns true for all numbers that describe a book and all lists of Ids, without an exception and without changing its arguments: a part of the proof. -/
import Derived.Test.YtdpipdniklognaaGreatVq
set_option linter.all false
/- Statements of sane, run by the kernel. -/
set_option maxRecDepth 100000
namespace Go.Proofs.YtdpipdniklognaaGreat
section
theorem zrS:z0z sG.E 100000 (z0S sCodes 11) (frL 165 zqM) (stL 8117 zqS) 165 zqL 10087 zqR=true:=by kernel_rfl
theorem zrR:z0z sG.E 100000 (z0S sCodes 12) (frL 165 zqL) (stL 10087 zqR) 165 zqK 12204 zqQ=true:=by kernel_rfl
end
end Go.Proofs.YtdpipdniklognaaGreat
