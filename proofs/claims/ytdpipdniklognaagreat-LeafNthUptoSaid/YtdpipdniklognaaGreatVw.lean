/- The program's LeafNth returns true for all numbers that describe a book and all lists of Ids, without an exception and without changing its arguments: a part of the proof. -/
import Derived.Test.YtdpipdniklognaaGreatVr
import Derived.Test.YtdpipdniklognaaGreatVs
import Derived.Test.YtdpipdniklognaaGreatVt
import Derived.Test.YtdpipdniklognaaGreatVu
import Derived.Test.YtdpipdniklognaaGreatVv
import Derived.Test.YtdpipdniklognaaGreatVo
import Derived.Test.YtdpipdniklognaaGreatVn
set_option linter.all false
/- sane returns true, for every world. -/
set_option maxRecDepth 100000
namespace Go.Proofs.YtdpipdniklognaaGreat
section
theorem zmR:Runs sG 0 (.bool true) (sCodes.drop 17) (frL 165 zrA) (stL 14580 zrB):=zgB (by kernel_rfl) (by kernel_rfl) (by kernel_rfl)
theorem zmS:Runs sG 0 (.bool true) (sCodes.drop 16) (frL 165 zqH) (stL 14576 zqN):=Runs.at sG_ok (by kernel_rfl) zrN zmR
theorem zmT:Runs sG 0 (.bool true) (sCodes.drop 15) (frL 165 zqI) (stL 14574 zqO):=Runs.at sG_ok (by kernel_rfl) zrO zmS
theorem zmU:Runs sG 0 (.bool true) (sCodes.drop 14) (frL 165 zqJ) (stL 14574 zqP):=Runs.at sG_ok (by kernel_rfl) zrP zmT
theorem zmV:Runs sG 0 (.bool true) (sCodes.drop 13) (frL 165 zqK) (stL 12204 zqQ):=Runs.at sG_ok (by kernel_rfl) zrQ zmU
theorem zmW:Runs sG 0 (.bool true) (sCodes.drop 12) (frL 165 zqL) (stL 10087 zqR):=Runs.at sG_ok (by kernel_rfl) zrR zmV
theorem zmX:Runs sG 0 (.bool true) (sCodes.drop 11) (frL 165 zqM) (stL 8117 zqS):=Runs.at sG_ok (by kernel_rfl) zrS zmW
theorem zmY:Runs sG 0 (.bool true) (sCodes.drop 10) (frL 165 lt9) (stL 6118 lh9):=Runs.at sG_ok (by kernel_rfl) zrT zmX
theorem zoX:Runs sG 0 (.bool true) (sCodes.drop 9) (frL 165 lt8) (stL 4141 lh8):=Runs.at sG_ok (by kernel_rfl) pc9 zmY
theorem zoY:Runs sG 0 (.bool true) (sCodes.drop 8) (frL 165 lt7) (stL 2180 lh7):=Runs.at sG_ok (by kernel_rfl) pc8 zoX
theorem zoZ:Runs sG 0 (.bool true) (sCodes.drop 7) (frL 165 lt6) (stL 1995 lh6):=Runs.at sG_ok (by kernel_rfl) pc7 zoY
theorem zp0:Runs sG 0 (.bool true) (sCodes.drop 6) (frL 165 lt5) (stL 39 lh5):=Runs.at sG_ok (by kernel_rfl) pc6 zoZ
theorem zp1:Runs sG 0 (.bool true) (sCodes.drop 5) (frL 165 lt4) (stL 6 lh4):=Runs.at sG_ok (by kernel_rfl) pc5 zp0
theorem zp2:Runs sG 0 (.bool true) (sCodes.drop 4) (frL 165 lt3) (stL 6 lh3):=Runs.at sG_ok (by kernel_rfl) pc4 zp1
theorem zp3:Runs sG 0 (.bool true) (sCodes.drop 3) (frL 165 lt2) (stL 6 lh2):=Runs.at sG_ok (by kernel_rfl) pc3 zp2
theorem zp4:Runs sG 0 (.bool true) (sCodes.drop 2) (frL 165 lt1) (stL 3 lh1):=Runs.at sG_ok (by kernel_rfl) pc2 zp3
theorem zp5:Runs sG 0 (.bool true) (sCodes.drop 1) (frL 165 lt0) (stL 0 lh0):=Runs.at sG_ok (by kernel_rfl) pc1 zp4
theorem zp6:Runs sG 0 (.bool true) (sCodes.drop 0) ⟨165,.nil⟩ St.empty:=Runs.at sG_ok (by kernel_rfl) pc0 zp5
theorem zfT (w:World):Calls Tryz.prog 26 #[] w fun e w'=>e = .returned (.bool true)∧SameIo w w'∧w.heap.size≤w'.heap.size∧∀ c,c<w.heap.size→w'.heap[c]? = w.heap[c]? :=zja (G:=sG) sG_ok rfl zmZ zp6 w
theorem zqw (r:Rm):Yj (sH r):=by
 obtain ⟨t,b⟩:=r
 refine ⟨sG_ok.mixed,sG_ok.ti,fun h hh=>?_,fun h hh=>by cases hh;exact ⟨⟨Tryz.f73,by kernel_rfl,by kernel_rfl,by kernel_rfl⟩,zht,zkb⟩,(fun h t hh=>by cases hh;exact ⟨⟨Tryz.f108,by kernel_rfl,by kernel_rfl,by kernel_rfl⟩,fun e he=>by
  have h9:(sG.E.ti.get 74).map (·.size)=some 6:=by kernel_rfl
  have h9:e.size=6:=by
   rw [show sG.E.ti.get 74=some e from he] at h9
   exact Option.some.inj h9
  rw [h9];exact ⟨ziy,zkX⟩⟩),zp7 rfl rfl,zp8 rfl rfl rfl,sG_ok.fns⟩
 cases b with
 | true=>cases hh;exact ⟨⟨Tryz.f26,by kernel_rfl,by kernel_rfl,by kernel_rfl⟩,zfT⟩
 | false=>cases hh
end
end Go.Proofs.YtdpipdniklognaaGreat
