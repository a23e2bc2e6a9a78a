/- The program's StemAgrees returns true for every stem, one and number, valid or not, without an exception and without changing its arguments: a part of the proof. -/
import Derived.Test.YtncpeobcgmkkbaaGreatVh
import Derived.Test.YtncpeobcgmkkbaaGreatVi
import Derived.Test.YtncpeobcgmkkbaaGreatVj
import Derived.Test.YtncpeobcgmkkbaaGreatVk
import Derived.Test.YtncpeobcgmkkbaaGreatVl
import Derived.Test.YtncpeobcgmkkbaaGreatVf
set_option linter.all false
/- sane returns true, for every world. -/
set_option maxRecDepth 100000
namespace Go.Proofs.YtncpeobcgmkkbaaGreat
theorem s_run17:Runs sG 0 (.bool true) (sCodes.drop 17) (frL 202 lt16) (stL 4653 lh16):=Runs.retAt (by kernel_rfl) (by kernel_rfl) (by kernel_rfl)
theorem s_run16:Runs sG 0 (.bool true) (sCodes.drop 16) (frL 202 lt15) (stL 3833 lh15):=Runs.at sG_ok (by kernel_rfl) pc16 s_run17
theorem s_run15:Runs sG 0 (.bool true) (sCodes.drop 15) (frL 202 lt14) (stL 3833 lh14):=Runs.at sG_ok (by kernel_rfl) pc15 s_run16
theorem s_run14:Runs sG 0 (.bool true) (sCodes.drop 14) (frL 202 lt13) (stL 3552 lh13):=Runs.at sG_ok (by kernel_rfl) pc14 s_run15
theorem s_run13:Runs sG 0 (.bool true) (sCodes.drop 13) (frL 202 lt12) (stL 3551 lh12):=Runs.at sG_ok (by kernel_rfl) pc13 s_run14
theorem s_run12:Runs sG 0 (.bool true) (sCodes.drop 12) (frL 202 lt11) (stL 3550 lh11):=Runs.at sG_ok (by kernel_rfl) pc12 s_run13
theorem s_run11:Runs sG 0 (.bool true) (sCodes.drop 11) (frL 202 lt10) (stL 3255 lh10):=Runs.at sG_ok (by kernel_rfl) pc11 s_run12
theorem s_run10:Runs sG 0 (.bool true) (sCodes.drop 10) (frL 202 lt9) (stL 2955 lh9):=Runs.at sG_ok (by kernel_rfl) pc10 s_run11
theorem s_run9:Runs sG 0 (.bool true) (sCodes.drop 9) (frL 202 lt8) (stL 2655 lh8):=Runs.at sG_ok (by kernel_rfl) pc9 s_run10
theorem s_run8:Runs sG 0 (.bool true) (sCodes.drop 8) (frL 202 lt7) (stL 1389 lh7):=Runs.at sG_ok (by kernel_rfl) pc8 s_run9
theorem s_run7:Runs sG 0 (.bool true) (sCodes.drop 7) (frL 202 lt6) (stL 1322 lh6):=Runs.at sG_ok (by kernel_rfl) pc7 s_run8
theorem s_run6:Runs sG 0 (.bool true) (sCodes.drop 6) (frL 202 lt5) (stL 974 lh5):=Runs.at sG_ok (by kernel_rfl) pc6 s_run7
theorem s_run5:Runs sG 0 (.bool true) (sCodes.drop 5) (frL 202 lt4) (stL 671 lh4):=Runs.at sG_ok (by kernel_rfl) pc5 s_run6
theorem s_run4:Runs sG 0 (.bool true) (sCodes.drop 4) (frL 202 lt3) (stL 591 lh3):=Runs.at sG_ok (by kernel_rfl) pc4 s_run5
theorem s_run3:Runs sG 0 (.bool true) (sCodes.drop 3) (frL 202 lt2) (stL 298 lh2):=Runs.at sG_ok (by kernel_rfl) pc3 s_run4
theorem s_run2:Runs sG 0 (.bool true) (sCodes.drop 2) (frL 202 lt1) (stL 7 lh1):=Runs.at sG_ok (by kernel_rfl) pc2 s_run3
theorem s_run1:Runs sG 0 (.bool true) (sCodes.drop 1) (frL 202 lt0) (stL 0 lh0):=Runs.at sG_ok (by kernel_rfl) pc1 s_run2
theorem s_run0:Runs sG 0 (.bool true) (sCodes.drop 0) ⟨202,.nil⟩ St.empty:=Runs.at sG_ok (by kernel_rfl) pc0 s_run1
theorem sane_calls (w:World):Calls Tryz.prog 20 #[] w fun e w'=>e = .returned (.bool true)∧SameIo w w'∧w.heap.size≤w'.heap.size∧∀ c,c<w.heap.size→w'.heap[c]? = w.heap[c]? :=const_run (G:=sG) sG_ok rfl s_const s_run0 w
theorem sH_ok (r:Tr (List Value×TypeId)):GoodOK (sH r):=⟨sG_ok.mixed,sG_ok.ti,fun h hh=>by cases hh;exact ⟨⟨Tryz.f20,by kernel_rfl,by kernel_rfl,by kernel_rfl⟩,sane_calls⟩,fun h hh=>by cases hh;exact ⟨⟨Tryz.f104,by kernel_rfl,by kernel_rfl,by kernel_rfl⟩,sort_none,sort_all⟩,fun f args v h=>absurd (show false=true from h) (by decide),sG_ok.fns⟩
end Go.Proofs.YtncpeobcgmkkbaaGreat
