/- The program's LeafConflicts returns true for all heaps, papers and lists of holes, valid or not, without an exception and without changing its arguments: a part of the proof. -/
import Derived.Test.YtdpipdniklognaaGreatVr
import Derived.Test.YtdpipdniklognaaGreatVs
import Derived.Test.YtdpipdniklognaaGreatVt
import Derived.Test.YtdpipdniklognaaGreatVu
import Derived.Test.YtdpipdniklognaaGreatVv
import Derived.Test.YtdpipdniklognaaGreatVo
import Derived.Test.YtdpipdniklognaaGreatVn
set_option linter.all false
/- sane returns true, for every world. -/
set_option maxRecDepth 100000
namespace Go.Proofs.YtdpipdniklognaaGreat
theorem zlA:Runs sG 0 (.bool true) (sCodes.drop 17) (frL 165 zpP) (stL 14580 zpQ):=zfW (by kernel_rfl) (by kernel_rfl) (by kernel_rfl)
theorem zlB:Runs sG 0 (.bool true) (sCodes.drop 16) (frL 165 zoZ) (stL 14576 zp5):=Runs.at sG_ok (by kernel_rfl) zq5 zlA
theorem zlC:Runs sG 0 (.bool true) (sCodes.drop 15) (frL 165 zp0) (stL 14574 zp6):=Runs.at sG_ok (by kernel_rfl) zq6 zlB
theorem zlD:Runs sG 0 (.bool true) (sCodes.drop 14) (frL 165 zp1) (stL 14574 zp7):=Runs.at sG_ok (by kernel_rfl) zq7 zlC
theorem zlE:Runs sG 0 (.bool true) (sCodes.drop 13) (frL 165 zp2) (stL 12204 zp8):=Runs.at sG_ok (by kernel_rfl) zq8 zlD
theorem zlF:Runs sG 0 (.bool true) (sCodes.drop 12) (frL 165 zp3) (stL 10087 zp9):=Runs.at sG_ok (by kernel_rfl) zq9 zlE
theorem zlG:Runs sG 0 (.bool true) (sCodes.drop 11) (frL 165 zp4) (stL 8117 zpa):=Runs.at sG_ok (by kernel_rfl) zqa zlF
theorem zlH:Runs sG 0 (.bool true) (sCodes.drop 10) (frL 165 lt9) (stL 6118 lh9):=Runs.at sG_ok (by kernel_rfl) zqb zlG
theorem znq:Runs sG 0 (.bool true) (sCodes.drop 9) (frL 165 lt8) (stL 4141 lh8):=Runs.at sG_ok (by kernel_rfl) pc9 zlH
theorem znr:Runs sG 0 (.bool true) (sCodes.drop 8) (frL 165 lt7) (stL 2180 lh7):=Runs.at sG_ok (by kernel_rfl) pc8 znq
theorem zns:Runs sG 0 (.bool true) (sCodes.drop 7) (frL 165 lt6) (stL 1995 lh6):=Runs.at sG_ok (by kernel_rfl) pc7 znr
theorem znt:Runs sG 0 (.bool true) (sCodes.drop 6) (frL 165 lt5) (stL 39 lh5):=Runs.at sG_ok (by kernel_rfl) pc6 zns
theorem znu:Runs sG 0 (.bool true) (sCodes.drop 5) (frL 165 lt4) (stL 6 lh4):=Runs.at sG_ok (by kernel_rfl) pc5 znt
theorem znv:Runs sG 0 (.bool true) (sCodes.drop 4) (frL 165 lt3) (stL 6 lh3):=Runs.at sG_ok (by kernel_rfl) pc4 znu
theorem znw:Runs sG 0 (.bool true) (sCodes.drop 3) (frL 165 lt2) (stL 6 lh2):=Runs.at sG_ok (by kernel_rfl) pc3 znv
theorem znx:Runs sG 0 (.bool true) (sCodes.drop 2) (frL 165 lt1) (stL 3 lh1):=Runs.at sG_ok (by kernel_rfl) pc2 znw
theorem zny:Runs sG 0 (.bool true) (sCodes.drop 1) (frL 165 lt0) (stL 0 lh0):=Runs.at sG_ok (by kernel_rfl) pc1 znx
theorem znz:Runs sG 0 (.bool true) (sCodes.drop 0) ⟨165,.nil⟩ St.empty:=Runs.at sG_ok (by kernel_rfl) pc0 zny
theorem zfi (w:World):Calls Tryz.prog 26 #[] w fun e w'=>e = .returned (.bool true)∧SameIo w w'∧w.heap.size≤w'.heap.size∧∀ c,c<w.heap.size→w'.heap[c]? = w.heap[c]? :=zij (G:=sG) sG_ok rfl zlI znz w
theorem zoR (r:Rm):GoodOK (sH r):=by
 obtain ⟨t,b⟩:=r
 refine ⟨sG_ok.mixed,sG_ok.ti,fun h hh=>?_,fun h hh=>by cases hh;exact ⟨⟨Tryz.f73,by kernel_rfl,by kernel_rfl,by kernel_rfl⟩,zgG,zji⟩,(fun h t hh=>by cases hh;exact ⟨⟨Tryz.f108,by kernel_rfl,by kernel_rfl,by kernel_rfl⟩,fun e he=>by
  have h9:(sG.E.ti.get 74).map (·.size)=some 6:=by kernel_rfl
  have h9:e.size=6:=by
   rw [show sG.E.ti.get 74=some e from he] at h9
   exact Option.some.inj h9
  rw [h9];exact ⟨zhL,zjZ⟩⟩),znA rfl rfl,znB rfl rfl rfl,sG_ok.fns⟩
 cases b with
 | true=>cases hh;exact ⟨⟨Tryz.f26,by kernel_rfl,by kernel_rfl,by kernel_rfl⟩,zfi⟩
 | false=>cases hh
end Go.Proofs.YtdpipdniklognaaGreat
