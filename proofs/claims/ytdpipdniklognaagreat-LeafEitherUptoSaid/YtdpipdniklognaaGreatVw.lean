/- The program's LeafEither returns true for all numbers that describe a book, all turns and all lists of holes, without an exception and without changing its arguments: a part of the proof. -/
import Derived.Test.YtdpipdniklognaaGreatVr
import Derived.Test.YtdpipdniklognaaGreatVs
import Derived.Test.YtdpipdniklognaaGreatVt
import Derived.Test.YtdpipdniklognaaGreatVu
import Derived.Test.YtdpipdniklognaaGreatVv
import Derived.Test.YtdpipdniklognaaGreatVo
import Derived.Test.YtdpipdniklognaaGreatVn
set_option linter.all false
/- sane returns true, for every world. -/
set_option maxRecDepth 100000
namespace Go.Proofs.YtdpipdniklognaaGreat
theorem zlH:Runs sG 0 (.bool true) (sCodes.drop 17) (frL 165 zq4) (stL 14580 zq5):=zfW (by kernel_rfl) (by kernel_rfl) (by kernel_rfl)
theorem zlI:Runs sG 0 (.bool true) (sCodes.drop 16) (frL 165 zpe) (stL 14576 zpk):=Runs.at sG_ok (by kernel_rfl) zqm zlH
theorem zlJ:Runs sG 0 (.bool true) (sCodes.drop 15) (frL 165 zpf) (stL 14574 zpl):=Runs.at sG_ok (by kernel_rfl) zqn zlI
theorem zlK:Runs sG 0 (.bool true) (sCodes.drop 14) (frL 165 zpg) (stL 14574 zpm):=Runs.at sG_ok (by kernel_rfl) zqo zlJ
theorem zlL:Runs sG 0 (.bool true) (sCodes.drop 13) (frL 165 zph) (stL 12204 zpn):=Runs.at sG_ok (by kernel_rfl) zqp zlK
theorem zlM:Runs sG 0 (.bool true) (sCodes.drop 12) (frL 165 zpi) (stL 10087 zpo):=Runs.at sG_ok (by kernel_rfl) zqq zlL
theorem zlN:Runs sG 0 (.bool true) (sCodes.drop 11) (frL 165 zpj) (stL 8117 zpp):=Runs.at sG_ok (by kernel_rfl) zqr zlM
theorem zlO:Runs sG 0 (.bool true) (sCodes.drop 10) (frL 165 lt9) (stL 6118 lh9):=Runs.at sG_ok (by kernel_rfl) zqs zlN
theorem znG:Runs sG 0 (.bool true) (sCodes.drop 9) (frL 165 lt8) (stL 4141 lh8):=Runs.at sG_ok (by kernel_rfl) pc9 zlO
theorem znH:Runs sG 0 (.bool true) (sCodes.drop 8) (frL 165 lt7) (stL 2180 lh7):=Runs.at sG_ok (by kernel_rfl) pc8 znG
theorem znI:Runs sG 0 (.bool true) (sCodes.drop 7) (frL 165 lt6) (stL 1995 lh6):=Runs.at sG_ok (by kernel_rfl) pc7 znH
theorem znJ:Runs sG 0 (.bool true) (sCodes.drop 6) (frL 165 lt5) (stL 39 lh5):=Runs.at sG_ok (by kernel_rfl) pc6 znI
theorem znK:Runs sG 0 (.bool true) (sCodes.drop 5) (frL 165 lt4) (stL 6 lh4):=Runs.at sG_ok (by kernel_rfl) pc5 znJ
theorem znL:Runs sG 0 (.bool true) (sCodes.drop 4) (frL 165 lt3) (stL 6 lh3):=Runs.at sG_ok (by kernel_rfl) pc4 znK
theorem znM:Runs sG 0 (.bool true) (sCodes.drop 3) (frL 165 lt2) (stL 6 lh2):=Runs.at sG_ok (by kernel_rfl) pc3 znL
theorem znN:Runs sG 0 (.bool true) (sCodes.drop 2) (frL 165 lt1) (stL 3 lh1):=Runs.at sG_ok (by kernel_rfl) pc2 znM
theorem znO:Runs sG 0 (.bool true) (sCodes.drop 1) (frL 165 lt0) (stL 0 lh0):=Runs.at sG_ok (by kernel_rfl) pc1 znN
theorem znP:Runs sG 0 (.bool true) (sCodes.drop 0) ⟨165,.nil⟩ St.empty:=Runs.at sG_ok (by kernel_rfl) pc0 znO
theorem zfi (w:World):Calls Tryz.prog 26 #[] w fun e w'=>e = .returned (.bool true)∧SameIo w w'∧w.heap.size≤w'.heap.size∧∀ c,c<w.heap.size→w'.heap[c]? = w.heap[c]? :=zim (G:=sG) sG_ok rfl zlP znP w
theorem zp2 (r:Rm):GoodOK (sH r):=by
 obtain ⟨t,b⟩:=r
 refine ⟨sG_ok.mixed,sG_ok.ti,fun h hh=>?_,fun h hh=>by cases hh;exact ⟨⟨Tryz.f73,by kernel_rfl,by kernel_rfl,by kernel_rfl⟩,zgE,zjj⟩,(fun h t hh=>by cases hh;exact ⟨⟨Tryz.f108,by kernel_rfl,by kernel_rfl,by kernel_rfl⟩,fun e he=>by
  have h9:(sG.E.ti.get 74).map (·.size)=some 6:=by kernel_rfl
  have h9:e.size=6:=by
   rw [show sG.E.ti.get 74=some e from he] at h9
   exact Option.some.inj h9
  rw [h9];exact ⟨zhI,zjZ⟩⟩),znQ rfl rfl,znR rfl rfl rfl,sG_ok.fns⟩
 cases b with
 | true=>cases hh;exact ⟨⟨Tryz.f26,by kernel_rfl,by kernel_rfl,by kernel_rfl⟩,zfi⟩
 | false=>cases hh
end Go.Proofs.YtdpipdniklognaaGreat
