/- The program's LeafNth returns true for all numbers that describe a book and all lists of Ids, without an exception and without changing its arguments: a part of the proof. -/
import Derived.Test.YtdpipdniklognaaGreatVq
set_option linter.all false
/- Statements of sane, run by the kernel. -/
set_option maxRecDepth 100000
namespace Go.Proofs.YtdpipdniklognaaGreat
section
theorem pc0:z0z sG.E 100000 (z0S sCodes 0) ⟨165,.nil⟩ St.empty 165 lt0 0 lh0=true:=by kernel_rfl
theorem pc1:z0z sG.E 100000 (z0S sCodes 1) (frL 165 lt0) (stL 0 lh0) 165 lt1 3 lh1=true:=by kernel_rfl
theorem pc2:z0z sG.E 100000 (z0S sCodes 2) (frL 165 lt1) (stL 3 lh1) 165 lt2 6 lh2=true:=by kernel_rfl
theorem pc3:z0z sG.E 100000 (z0S sCodes 3) (frL 165 lt2) (stL 6 lh2) 165 lt3 6 lh3=true:=by kernel_rfl
theorem pc4:z0z sG.E 100000 (z0S sCodes 4) (frL 165 lt3) (stL 6 lh3) 165 lt4 6 lh4=true:=by kernel_rfl
theorem pc5:z0z sG.E 100000 (z0S sCodes 5) (frL 165 lt4) (stL 6 lh4) 165 lt5 39 lh5=true:=by kernel_rfl
theorem pc6:z0z sG.E 100000 (z0S sCodes 6) (frL 165 lt5) (stL 39 lh5) 165 lt6 1995 lh6=true:=by kernel_rfl
end
end Go.Proofs.YtdpipdniklognaaGreat
