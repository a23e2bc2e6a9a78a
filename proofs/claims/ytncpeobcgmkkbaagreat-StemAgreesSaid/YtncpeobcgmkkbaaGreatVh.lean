/- The program's StemAgrees returns true for every stem, one and number, valid or not, without an exception and without changing its arguments: a part of the proof. -/
import Derived.Test.YtncpeobcgmkkbaaGreatVg
set_option linter.all false
/- Statements of sane, run by the kernel. -/
set_option maxRecDepth 100000
namespace Go.Proofs.YtncpeobcgmkkbaaGreat
theorem pc0:pieceOk sG.E 100000 (codeAt sCodes 0) ⟨202,.nil⟩ St.empty 202 lt0 0 lh0=true:=by kernel_rfl
theorem pc1:pieceOk sG.E 100000 (codeAt sCodes 1) (frL 202 lt0) (stL 0 lh0) 202 lt1 7 lh1=true:=by kernel_rfl
theorem pc2:pieceOk sG.E 100000 (codeAt sCodes 2) (frL 202 lt1) (stL 7 lh1) 202 lt2 298 lh2=true:=by kernel_rfl
theorem pc3:pieceOk sG.E 100000 (codeAt sCodes 3) (frL 202 lt2) (stL 298 lh2) 202 lt3 591 lh3=true:=by kernel_rfl
theorem pc4:pieceOk sG.E 100000 (codeAt sCodes 4) (frL 202 lt3) (stL 591 lh3) 202 lt4 671 lh4=true:=by kernel_rfl
theorem pc5:pieceOk sG.E 100000 (codeAt sCodes 5) (frL 202 lt4) (stL 671 lh4) 202 lt5 974 lh5=true:=by kernel_rfl
end Go.Proofs.YtncpeobcgmkkbaaGreat
