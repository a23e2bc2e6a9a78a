/- The program's LeafEither returns true for all numbers that describe a book, all turns and all lists of holes, without an exception and without changing its arguments: a part of the proof. -/
import Derived.Test.YtdpipdniklognaaGreatVq
set_option linter.all false
/- Statements of sane, run by the kernel. -/
set_option maxRecDepth 100000
namespace Go.Proofs.YtdpipdniklognaaGreat
theorem zqp:z0y sG.E 100000 (z0V sCodes 13) (frL 165 zph) (stL 12204 zpn) 165 zpg 14574 zpm=true:=by kernel_rfl
end Go.Proofs.YtdpipdniklognaaGreat
/- Statements of sane, run by the kernel. -/
set_option maxRecDepth 100000
namespace Go.Proofs.YtdpipdniklognaaGreat
theorem zqo:z0y sG.E 100000 (z0V sCodes 14) (frL 165 zpg) (stL 14574 zpm) 165 zpf 14574 zpl=true:=by kernel_rfl
theorem zqn:z0y sG.E 100000 (z0V sCodes 15) (frL 165 zpf) (stL 14574 zpl) 165 zpe 14576 zpk=true:=by kernel_rfl
theorem zqm:z0y sG.E 100000 (z0V sCodes 16) (frL 165 zpe) (stL 14576 zpk) 165 zq4 14580 zq5=true:=by kernel_rfl
end Go.Proofs.YtdpipdniklognaaGreat
