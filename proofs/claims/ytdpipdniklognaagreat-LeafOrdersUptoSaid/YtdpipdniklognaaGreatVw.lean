/- The program's LeafOrders returns true for all heaps, papers, numbers, orders and holes, valid or not, without an exception and without changing its arguments: a part of the proof. -/
import Derived.Test.YtdpipdniklognaaGreatVr
import Derived.Test.YtdpipdniklognaaGreatVs
import Derived.Test.YtdpipdniklognaaGreatVt
import Derived.Test.YtdpipdniklognaaGreatVu
import Derived.Test.YtdpipdniklognaaGreatVv
import Derived.Test.YtdpipdniklognaaGreatVo
import Derived.Test.YtdpipdniklognaaGreatVn
set_option linter.all false
/- sane returns true, for every world. -/
set_option maxRecDepth 100000
namespace Go.Proofs.YtdpipdniklognaaGreat
theorem zkp:Runs sG 0 (.bool true) (sCodes.drop 17) (frL 165 zoG) (stL 14580 zoH):=zeW (by kernel_rfl) (by kernel_rfl) (by kernel_rfl)
theorem zkq:Runs sG 0 (.bool true) (sCodes.drop 16) (frL 165 znR) (stL 14576 znX):=Runs.at sG_ok (by kernel_rfl) zoU zkp
theorem zkr:Runs sG 0 (.bool true) (sCodes.drop 15) (frL 165 znS) (stL 14574 znY):=Runs.at sG_ok (by kernel_rfl) zoV zkq
theorem zks:Runs sG 0 (.bool true) (sCodes.drop 14) (frL 165 znT) (stL 14574 znZ):=Runs.at sG_ok (by kernel_rfl) zoW zkr
theorem zkt:Runs sG 0 (.bool true) (sCodes.drop 13) (frL 165 znU) (stL 12204 zo0):=Runs.at sG_ok (by kernel_rfl) zoX zks
theorem zku:Runs sG 0 (.bool true) (sCodes.drop 12) (frL 165 znV) (stL 10087 zo1):=Runs.at sG_ok (by kernel_rfl) zoY zkt
theorem zkv:Runs sG 0 (.bool true) (sCodes.drop 11) (frL 165 znW) (stL 8117 zo2):=Runs.at sG_ok (by kernel_rfl) zoZ zku
theorem zkw:Runs sG 0 (.bool true) (sCodes.drop 10) (frL 165 lt9) (stL 6118 lh9):=Runs.at sG_ok (by kernel_rfl) zp0 zkv
theorem zmh:Runs sG 0 (.bool true) (sCodes.drop 9) (frL 165 lt8) (stL 4141 lh8):=Runs.at sG_ok (by kernel_rfl) pc9 zkw
theorem zmi:Runs sG 0 (.bool true) (sCodes.drop 8) (frL 165 lt7) (stL 2180 lh7):=Runs.at sG_ok (by kernel_rfl) pc8 zmh
theorem zmj:Runs sG 0 (.bool true) (sCodes.drop 7) (frL 165 lt6) (stL 1995 lh6):=Runs.at sG_ok (by kernel_rfl) pc7 zmi
theorem zmk:Runs sG 0 (.bool true) (sCodes.drop 6) (frL 165 lt5) (stL 39 lh5):=Runs.at sG_ok (by kernel_rfl) pc6 zmj
theorem zml:Runs sG 0 (.bool true) (sCodes.drop 5) (frL 165 lt4) (stL 6 lh4):=Runs.at sG_ok (by kernel_rfl) pc5 zmk
theorem zmm:Runs sG 0 (.bool true) (sCodes.drop 4) (frL 165 lt3) (stL 6 lh3):=Runs.at sG_ok (by kernel_rfl) pc4 zml
theorem zmn:Runs sG 0 (.bool true) (sCodes.drop 3) (frL 165 lt2) (stL 6 lh2):=Runs.at sG_ok (by kernel_rfl) pc3 zmm
theorem zmo:Runs sG 0 (.bool true) (sCodes.drop 2) (frL 165 lt1) (stL 3 lh1):=Runs.at sG_ok (by kernel_rfl) pc2 zmn
theorem zmp:Runs sG 0 (.bool true) (sCodes.drop 1) (frL 165 lt0) (stL 0 lh0):=Runs.at sG_ok (by kernel_rfl) pc1 zmo
theorem zmq:Runs sG 0 (.bool true) (sCodes.drop 0) ⟨165,.nil⟩ St.empty:=Runs.at sG_ok (by kernel_rfl) pc0 zmp
theorem zei (w:World):Calls Tryz.prog 26 #[] w fun e w'=>e = .returned (.bool true)∧SameIo w w'∧w.heap.size≤w'.heap.size∧∀ c,c<w.heap.size→w'.heap[c]? = w.heap[c]? :=zhk (G:=sG) sG_ok rfl zkx zmq w
theorem znJ (r:Rm):GoodOK (sH r):=by
 obtain ⟨t,b⟩:=r
 refine ⟨sG_ok.mixed,sG_ok.ti,fun h hh=>?_,fun h hh=>by cases hh;exact ⟨⟨Tryz.f73,by kernel_rfl,by kernel_rfl,by kernel_rfl⟩,zfK,zi9⟩,(fun h t hh=>by cases hh;exact ⟨⟨Tryz.f108,by kernel_rfl,by kernel_rfl,by kernel_rfl⟩,fun e he=>by
  have h9:(sG.E.ti.get 74).map (·.size)=some 6:=by kernel_rfl
  have h9:e.size=6:=by
   rw [show sG.E.ti.get 74=some e from he] at h9
   exact Option.some.inj h9
  rw [h9];exact ⟨zgP,ziS⟩⟩),zmr rfl rfl,zms rfl rfl rfl,sG_ok.fns⟩
 cases b with
 | true=>cases hh;exact ⟨⟨Tryz.f26,by kernel_rfl,by kernel_rfl,by kernel_rfl⟩,zei⟩
 | false=>cases hh
end Go.Proofs.YtdpipdniklognaaGreat
