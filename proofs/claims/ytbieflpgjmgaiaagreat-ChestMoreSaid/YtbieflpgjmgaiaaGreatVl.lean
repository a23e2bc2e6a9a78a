/- The program's ChestMore returns true for all numbers without an exception and without changing its arguments: a part of the proof. -/
import Derived.Test.YtbieflpgjmgaiaaGreatVi
set_option linter.all false
/- Statements of sane, run by the kernel. -/
set_option maxRecDepth 100000
namespace Go.Proofs.YtbieflpgjmgaiaaGreat
theorem pc0:pieceOk sG.E 100000 (codeAt sCodes 0) ⟨182,.nil⟩ St.empty 182 lt0 0 lh0=true:=by kernel_rfl
theorem pc1:pieceOk sG.E 100000 (codeAt sCodes 1) (frL 182 lt0) (stL 0 lh0) 182 lt1 9 lh1=true:=by kernel_rfl
theorem pc2:pieceOk sG.E 100000 (codeAt sCodes 2) (frL 182 lt1) (stL 9 lh1) 182 lt2 150 lh2=true:=by kernel_rfl
theorem pc3:pieceOk sG.E 100000 (codeAt sCodes 3) (frL 182 lt2) (stL 150 lh2) 182 lt3 348 lh3=true:=by kernel_rfl
end Go.Proofs.YtbieflpgjmgaiaaGreat
/- Statements of sane, run by the kernel. -/
set_option maxRecDepth 100000
namespace Go.Proofs.YtbieflpgjmgaiaaGreat
theorem pc4:pieceOk sG.E 100000 (codeAt sCodes 4) (frL 182 lt3) (stL 348 lh3) 182 lt4 1464 lh4=true:=by kernel_rfl
end Go.Proofs.YtbieflpgjmgaiaaGreat
