/- The program's LeafChecks returns true for all heaps, sheets, papers and Ids, valid or not, without an exception and without changing its arguments: a part of the proof. -/
import Derived.Test.YtdpipdniklognaaGreatVr
import Derived.Test.YtdpipdniklognaaGreatVs
import Derived.Test.YtdpipdniklognaaGreatVt
import Derived.Test.YtdpipdniklognaaGreatVu
import Derived.Test.YtdpipdniklognaaGreatVv
import Derived.Test.YtdpipdniklognaaGreatVo
import Derived.Test.YtdpipdniklognaaGreatVn
set_option linter.all false
/- sane returns true, for every world. -/
set_option maxRecDepth 100000
namespace Go.Proofs.YtdpipdniklognaaGreat
theorem s_run17:Runs sG 0 (.bool true) (sCodes.drop 17) (frL 165 lt16) (stL 14580 lh16):=Runs.retAt (by kernel_rfl) (by kernel_rfl) (by kernel_rfl)
theorem s_run16:Runs sG 0 (.bool true) (sCodes.drop 16) (frL 165 lt15) (stL 14576 lh15):=Runs.at sG_ok (by kernel_rfl) pc16 s_run17
theorem s_run15:Runs sG 0 (.bool true) (sCodes.drop 15) (frL 165 lt14) (stL 14574 lh14):=Runs.at sG_ok (by kernel_rfl) pc15 s_run16
theorem s_run14:Runs sG 0 (.bool true) (sCodes.drop 14) (frL 165 lt13) (stL 14574 lh13):=Runs.at sG_ok (by kernel_rfl) pc14 s_run15
theorem s_run13:Runs sG 0 (.bool true) (sCodes.drop 13) (frL 165 lt12) (stL 12204 lh12):=Runs.at sG_ok (by kernel_rfl) pc13 s_run14
theorem s_run12:Runs sG 0 (.bool true) (sCodes.drop 12) (frL 165 lt11) (stL 10087 lh11):=Runs.at sG_ok (by kernel_rfl) pc12 s_run13
theorem s_run11:Runs sG 0 (.bool true) (sCodes.drop 11) (frL 165 lt10) (stL 8117 lh10):=Runs.at sG_ok (by kernel_rfl) pc11 s_run12
theorem s_run10:Runs sG 0 (.bool true) (sCodes.drop 10) (frL 165 lt9) (stL 6118 lh9):=Runs.at sG_ok (by kernel_rfl) pc10 s_run11
theorem s_run9:Runs sG 0 (.bool true) (sCodes.drop 9) (frL 165 lt8) (stL 4141 lh8):=Runs.at sG_ok (by kernel_rfl) pc9 s_run10
theorem s_run8:Runs sG 0 (.bool true) (sCodes.drop 8) (frL 165 lt7) (stL 2180 lh7):=Runs.at sG_ok (by kernel_rfl) pc8 s_run9
theorem s_run7:Runs sG 0 (.bool true) (sCodes.drop 7) (frL 165 lt6) (stL 1995 lh6):=Runs.at sG_ok (by kernel_rfl) pc7 s_run8
theorem s_run6:Runs sG 0 (.bool true) (sCodes.drop 6) (frL 165 lt5) (stL 39 lh5):=Runs.at sG_ok (by kernel_rfl) pc6 s_run7
theorem s_run5:Runs sG 0 (.bool true) (sCodes.drop 5) (frL 165 lt4) (stL 6 lh4):=Runs.at sG_ok (by kernel_rfl) pc5 s_run6
theorem s_run4:Runs sG 0 (.bool true) (sCodes.drop 4) (frL 165 lt3) (stL 6 lh3):=Runs.at sG_ok (by kernel_rfl) pc4 s_run5
theorem s_run3:Runs sG 0 (.bool true) (sCodes.drop 3) (frL 165 lt2) (stL 6 lh2):=Runs.at sG_ok (by kernel_rfl) pc3 s_run4
theorem s_run2:Runs sG 0 (.bool true) (sCodes.drop 2) (frL 165 lt1) (stL 3 lh1):=Runs.at sG_ok (by kernel_rfl) pc2 s_run3
theorem s_run1:Runs sG 0 (.bool true) (sCodes.drop 1) (frL 165 lt0) (stL 0 lh0):=Runs.at sG_ok (by kernel_rfl) pc1 s_run2
theorem s_run0:Runs sG 0 (.bool true) (sCodes.drop 0) ⟨165,.nil⟩ St.empty:=Runs.at sG_ok (by kernel_rfl) pc0 s_run1
theorem sane_calls (w:World):Calls Tryz.prog 26 #[] w fun e w'=>e = .returned (.bool true)∧SameIo w w'∧w.heap.size≤w'.heap.size∧∀ c,c<w.heap.size→w'.heap[c]? = w.heap[c]? :=const_run (G:=sG) sG_ok rfl s_const s_run0 w
theorem sH_ok (r:Rm):GoodOK (sH r):=by
 obtain ⟨t,b⟩:=r
 refine ⟨sG_ok.mixed,sG_ok.ti,fun h hh=>?_,fun h hh=>by cases hh;exact ⟨⟨Tryz.f73,by kernel_rfl,by kernel_rfl,by kernel_rfl⟩,sort_none,sort_all⟩,(fun h t hh=>by cases hh;exact ⟨⟨Tryz.f108,by kernel_rfl,by kernel_rfl,by kernel_rfl⟩,fun e he=>by
  have h9:(sG.E.ti.get 74).map (·.size)=some 6:=by kernel_rfl
  have h9:e.size=6:=by
   rw [show sG.E.ti.get 74=some e from he] at h9
   exact Option.some.inj h9
  rw [h9];exact ⟨insOK_opn,insZ_opn⟩⟩),s_orc rfl rfl,s_lkf rfl rfl rfl,sG_ok.fns⟩
 cases b with
 | true=>cases hh;exact ⟨⟨Tryz.f26,by kernel_rfl,by kernel_rfl,by kernel_rfl⟩,sane_calls⟩
 | false=>cases hh
end Go.Proofs.YtdpipdniklognaaGreat
