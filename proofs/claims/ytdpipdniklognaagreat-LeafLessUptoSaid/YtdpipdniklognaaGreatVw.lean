/- The program's LeafLess returns true for all numbers that describe a book, all that is not known any more, and all numbers of an order, without an exception and without changing its arguments: a part of the proof. -/
import Derived.Test.YtdpipdniklognaaGreatVr
import Derived.Test.YtdpipdniklognaaGreatVs
import Derived.Test.YtdpipdniklognaaGreatVt
import Derived.Test.YtdpipdniklognaaGreatVu
import Derived.Test.YtdpipdniklognaaGreatVv
import Derived.Test.YtdpipdniklognaaGreatVo
import Derived.Test.YtdpipdniklognaaGreatVn
set_option linter.all false
/- sane returns true, for every world. -/
set_option maxRecDepth 100000
namespace Go.Proofs.YtdpipdniklognaaGreat
section
theorem zmJ:Runs sG 0 (.bool true) (sCodes.drop 17) (frL 165 zrs) (stL 14580 zrt):=zgv (by kernel_rfl) (by kernel_rfl) (by kernel_rfl)
theorem zmK:Runs sG 0 (.bool true) (sCodes.drop 16) (frL 165 zqz) (stL 14576 zqF):=Runs.at sG_ok (by kernel_rfl) zrF zmJ
theorem zmL:Runs sG 0 (.bool true) (sCodes.drop 15) (frL 165 zqA) (stL 14574 zqG):=Runs.at sG_ok (by kernel_rfl) zrG zmK
theorem zmM:Runs sG 0 (.bool true) (sCodes.drop 14) (frL 165 zqB) (stL 14574 zqH):=Runs.at sG_ok (by kernel_rfl) zrH zmL
theorem zmN:Runs sG 0 (.bool true) (sCodes.drop 13) (frL 165 zqC) (stL 12204 zqI):=Runs.at sG_ok (by kernel_rfl) zrI zmM
theorem zmO:Runs sG 0 (.bool true) (sCodes.drop 12) (frL 165 zqD) (stL 10087 zqJ):=Runs.at sG_ok (by kernel_rfl) zrJ zmN
theorem zmP:Runs sG 0 (.bool true) (sCodes.drop 11) (frL 165 zqE) (stL 8117 zqK):=Runs.at sG_ok (by kernel_rfl) zrK zmO
theorem zmQ:Runs sG 0 (.bool true) (sCodes.drop 10) (frL 165 lt9) (stL 6118 lh9):=Runs.at sG_ok (by kernel_rfl) zrL zmP
theorem zoO:Runs sG 0 (.bool true) (sCodes.drop 9) (frL 165 lt8) (stL 4141 lh8):=Runs.at sG_ok (by kernel_rfl) pc9 zmQ
theorem zoP:Runs sG 0 (.bool true) (sCodes.drop 8) (frL 165 lt7) (stL 2180 lh7):=Runs.at sG_ok (by kernel_rfl) pc8 zoO
theorem zoQ:Runs sG 0 (.bool true) (sCodes.drop 7) (frL 165 lt6) (stL 1995 lh6):=Runs.at sG_ok (by kernel_rfl) pc7 zoP
theorem zoR:Runs sG 0 (.bool true) (sCodes.drop 6) (frL 165 lt5) (stL 39 lh5):=Runs.at sG_ok (by kernel_rfl) pc6 zoQ
theorem zoS:Runs sG 0 (.bool true) (sCodes.drop 5) (frL 165 lt4) (stL 6 lh4):=Runs.at sG_ok (by kernel_rfl) pc5 zoR
theorem zoT:Runs sG 0 (.bool true) (sCodes.drop 4) (frL 165 lt3) (stL 6 lh3):=Runs.at sG_ok (by kernel_rfl) pc4 zoS
theorem zoU:Runs sG 0 (.bool true) (sCodes.drop 3) (frL 165 lt2) (stL 6 lh2):=Runs.at sG_ok (by kernel_rfl) pc3 zoT
theorem zoV:Runs sG 0 (.bool true) (sCodes.drop 2) (frL 165 lt1) (stL 3 lh1):=Runs.at sG_ok (by kernel_rfl) pc2 zoU
theorem zoW:Runs sG 0 (.bool true) (sCodes.drop 1) (frL 165 lt0) (stL 0 lh0):=Runs.at sG_ok (by kernel_rfl) pc1 zoV
theorem zoX:Runs sG 0 (.bool true) (sCodes.drop 0) ⟨165,.nil⟩ St.empty:=Runs.at sG_ok (by kernel_rfl) pc0 zoW
theorem zfO (w:World):Calls Tryz.prog 26 #[] w fun e w'=>e = .returned (.bool true)∧SameIo w w'∧w.heap.size≤w'.heap.size∧∀ c,c<w.heap.size→w'.heap[c]? = w.heap[c]? :=zj7 (G:=sG) sG_ok rfl zmR zoX w
theorem zqq (r:Rm):Yl (sH r):=by
 obtain ⟨t,b⟩:=r
 refine ⟨sG_ok.mixed,sG_ok.ti,fun h hh=>?_,fun h hh=>by cases hh;exact ⟨⟨Tryz.f73,by kernel_rfl,by kernel_rfl,by kernel_rfl⟩,zhp,zk9⟩,(fun h t hh=>by cases hh;exact ⟨⟨Tryz.f108,by kernel_rfl,by kernel_rfl,by kernel_rfl⟩,fun e he=>by
  have h9:(sG.E.ti.get 74).map (·.size)=some 6:=by kernel_rfl
  have h9:e.size=6:=by
   rw [show sG.E.ti.get 74=some e from he] at h9
   exact Option.some.inj h9
  rw [h9];exact ⟨ziw,zkU⟩⟩),zoY rfl rfl,zoZ rfl rfl rfl,sG_ok.fns⟩
 cases b with
 | true=>cases hh;exact ⟨⟨Tryz.f26,by kernel_rfl,by kernel_rfl,by kernel_rfl⟩,zfO⟩
 | false=>cases hh
end
end Go.Proofs.YtdpipdniklognaaGreat
