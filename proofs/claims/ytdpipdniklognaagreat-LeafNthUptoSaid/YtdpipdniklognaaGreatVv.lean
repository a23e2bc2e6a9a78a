/- The program's LeafNth returns true for all numbers that describe a book and all lists of Ids, without an exception and without changing its arguments: a part of the proof. -/
import Derived.Test.YtdpipdniklognaaGreatVq
set_option linter.all false
/- Statements of sane, run by the kernel. -/
set_option maxRecDepth 100000
namespace Go.Proofs.YtdpipdniklognaaGreat
section
theorem zrQ:z0z sG.E 100000 (z0S sCodes 13) (frL 165 zqK) (stL 12204 zqQ) 165 zqJ 14574 zqP=true:=by kernel_rfl
theorem zrP:z0z sG.E 100000 (z0S sCodes 14) (frL 165 zqJ) (stL 14574 zqP) 165 zqI 14574 zqO=true:=by kernel_rfl
theorem zrO:z0z sG.E 100000 (z0S sCodes 15) (frL 165 zqI) (stL 14574 zqO) 165 zqH 14576 zqN=true:=by kernel_rfl
theorem zrN:z0z sG.E 100000 (z0S sCodes 16) (frL 165 zqH) (stL 14576 zqN) 165 zrA 14580 zrB=true:=by kernel_rfl
end
end Go.Proofs.YtdpipdniklognaaGreat
