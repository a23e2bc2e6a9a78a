/- The program's ChestMore returns true for all numbers without an exception and without changing its arguments: a part of the proof. -/
import Derived.Shelf.Sort.Plain
import Derived.Shelf.Slices.In.SortNone
import Derived.Test.YtbieflpgjmgaiaaGreatChecked
import Derived.Test.YtbieflpgjmgaiaaGreatProg
import Derived.Test.YtbieflpgjmgaiaaGreatVb
set_option linter.all false
/- What the library's sort of ints stands on, at this program. -/
namespace Go.Proofs.YtbieflpgjmgaiaaGreat
open Go.Shelf
def sort_ren:Go.Shelf.Ren:=⟨fun | 189=>82 | 125=>116 | 257=>118 | 128=>139 | 129=>140 | 294=>141 | 295=>142 | 296=>143 | 297=>144 | 298=>145 | 299=>146 | 216=>147 | 300=>148 | 301=>149 | 328=>156 | 329=>152 | 330=>153 | 331=>157 | 332=>158 | 215=>117 | 343=>161 | n=>n,fun | 28=>32 | 3=>3 | 46=>125 | 0=>0 | 51=>144 | 53=>146 | 4=>4 | 183=>138 | 182=>137 | 131=>112 | 5=>5 | 9=>9 | 218=>153 | 222=>157 | 228=>162 | 229=>163 | n=>n,fun | n=>n⟩
theorem sort_lay:Go.Proofs.Lays.n189 Tryz.prog sort_ren:={
 mixed:=by kernel_rfl
 f125:=Tryz.func116.trans (congrArg some (by kernel_rfl))
 f128:=Tryz.func139.trans (congrArg some (by kernel_rfl))
 f129:=Tryz.func140.trans (congrArg some (by kernel_rfl))
 f189:=Tryz.func82.trans (congrArg some (by kernel_rfl))
 f215:=Tryz.func117.trans (congrArg some (by kernel_rfl))
 f216:=Tryz.func147.trans (congrArg some (by kernel_rfl))
 f257:=Tryz.func118.trans (congrArg some (by kernel_rfl))
 f294:=Tryz.func141.trans (congrArg some (by kernel_rfl))
 f295:=Tryz.func142.trans (congrArg some (by kernel_rfl))
 f296:=Tryz.func143.trans (congrArg some (by kernel_rfl))
 f297:=Tryz.func144.trans (congrArg some (by kernel_rfl))
 f298:=Tryz.func145.trans (congrArg some (by kernel_rfl))
 f299:=Tryz.func146.trans (congrArg some (by kernel_rfl))
 f300:=Tryz.func148.trans (congrArg some (by kernel_rfl))
 f301:=Tryz.func149.trans (congrArg some (by kernel_rfl))
 f328:=Tryz.func156.trans (congrArg some (by kernel_rfl))
 f329:=Tryz.func152.trans (congrArg some (by kernel_rfl))
 f330:=Tryz.func153.trans (congrArg some (by kernel_rfl))
 f331:=Tryz.func157.trans (congrArg some (by kernel_rfl))
 f332:=Tryz.func158.trans (congrArg some (by kernel_rfl))
 f343:=Tryz.func161.trans (congrArg some (by kernel_rfl))
 t0:=Tryz.underlying0
 a0:=Tryz.isAgg0
 z0:=Tryz.sizeOf0
 v0:=Tryz.zeroValue0
 t3:=Tryz.underlying3
 a3:=Tryz.isAgg3
 z3:=Tryz.sizeOf3
 v3:=Tryz.zeroValue3
 t4:=Tryz.underlying4
 a4:=Tryz.isAgg4
 z4:=Tryz.sizeOf4
 v4:=Tryz.zeroValue4
 t5:=Tryz.underlying5
 a5:=Tryz.isAgg5
 z5:=Tryz.sizeOf5
 v5:=Tryz.zeroValue5
 t9:=Tryz.underlying9
 a9:=Tryz.isAgg9
 z9:=Tryz.sizeOf9
 v9:=Tryz.zeroValue9
 t28:=Tryz.underlying32
 a28:=Tryz.isAgg32
 z28:=Tryz.sizeOf32
 v28:=Tryz.zeroValue32
 t46:=Tryz.underlying125
 a46:=Tryz.isAgg125
 z46:=Tryz.sizeOf125
 v46:=Tryz.zeroValue125
 t51:=Tryz.underlying144
 a51:=Tryz.isAgg144
 z51:=Tryz.sizeOf144
 v51:=Tryz.zeroValue144
 t53:=Tryz.underlying146
 a53:=Tryz.isAgg146
 z53:=Tryz.sizeOf146
 v53:=Tryz.zeroValue146
 t131:=Tryz.underlying112
 a131:=Tryz.isAgg112
 z131:=Tryz.sizeOf112
 v131:=Tryz.zeroValue112
 t182:=Tryz.underlying137
 a182:=Tryz.isAgg137
 z182:=Tryz.sizeOf137
 v182:=Tryz.zeroValue137
 t183:=Tryz.underlying138
 a183:=Tryz.isAgg138
 z183:=Tryz.sizeOf138
 v183:=Tryz.zeroValue138
 t218:=Tryz.underlying153
 a218:=Tryz.isAgg153
 z218:=Tryz.sizeOf153
 v218:=Tryz.zeroValue153
 t222:=Tryz.underlying157
 a222:=Tryz.isAgg157
 z222:=Tryz.sizeOf157
 v222:=Tryz.zeroValue157
 t228:=Tryz.underlying162
 a228:=Tryz.isAgg162
 z228:=Tryz.sizeOf162
 v228:=Tryz.zeroValue162
 t229:=Tryz.underlying163
 a229:=Tryz.isAgg163
 z229:=Tryz.sizeOf163
 v229:=Tryz.zeroValue163 }
end Go.Proofs.YtbieflpgjmgaiaaGreat
/- The library's sort of ints, in the evaluator's words. -/
namespace Go.Proofs.YtbieflpgjmgaiaaGreat
open Go.Sort Go.Shelf
theorem sort_none (p:Option Addr) (cap:Nat) (w:World):Calls Tryz.prog 82 #[.slice p 0 cap] w fun e w'=>e = .returned (.tuple #[])∧w'=w:=Any.slices_Sort_int_none sort_lay p cap w
theorem sort_all:SortOK Tryz.prog 82:=by
 intro blk off cap zs w c ty hlen hc hoff hz
 have hlt:blk<w.heap.size:=(Array.getElem?_eq_some_iff.1 hc).1
 have hget:∀ j,j<zs.length→zs.toArray[j]! = zs.getD j 0:=fun j hj=>by
  rw [getElem!_pos _ _ (by simpa using hj),List.getD_eq_getElem?_getD,List.getElem?_eq_getElem hj];simp
 have hH:Holds (Value.int .i64) w blk off zs.toArray:=fun j hj=>by
  have hj:j<zs.length:=by simpa using hj
  refine ⟨?_,?_⟩
  ·unfold World.cell?
   simp only [hc]
   rw [if_neg (by simp),hz j hj,hget j hj]
  ·unfold World.frozen?
   simp only [hc]
   simp
 refine (Any.slices_Sort_int sort_lay blk off cap zs w hH hlt hlen).mono ?_
 rintro e w' ⟨rfl,n,os,rfl⟩
 have hsl:(zs.mergeSort fun x y=>decide (x≤y)).length=zs.length:=List.length_mergeSort _
 have hm:(mapBlock (Sort.ahead w n) blk (putCells (Value.int .i64) off (zs.mergeSort fun x y=>decide (x≤y)).toArray)).heap=w.heap.modify blk (onCells (putCells (Value.int .i64) off (zs.mergeSort fun x y=>decide (x≤y)).toArray)):=rfl
 have hsz:(grow (putRow (Value.int .i64) (Sort.ahead w n) blk off (zs.mergeSort fun x y=>decide (x≤y)).toArray) os).heap.size=w.heap.size+os.size:=by
  show (_++os).size=_
  rw [Array.size_append]
  show (w.heap.modify blk _).size+os.size=_
  rw [Array.size_modify]
 have hat:∀ k,k<w.heap.size→(grow (putRow (Value.int .i64) (Sort.ahead w n) blk off (zs.mergeSort fun x y=>decide (x≤y)).toArray) os).heap[k]? = (w.heap.modify blk (onCells (putCells (Value.int .i64) off (zs.mergeSort fun x y=>decide (x≤y)).toArray)))[k]? :=fun k hk=>by
  show (_++os)[k]? = _
  exact Array.getElem?_append_left (by show k<(w.heap.modify blk _).size;rw [Array.size_modify];exact hk)
 refine ⟨rfl,⟨rfl,rfl,rfl⟩,by rw [hsz];omega,fun k hk hne=>?_,?_⟩
 ·rw [hat k hk,Array.getElem?_modify,if_neg (fun e=>hne e.symm)]
 ·refine ⟨putCells (Value.int .i64) off (zs.mergeSort fun x y=>decide (x≤y)).toArray c,?_,by unfold putCells;rw [Array.size_mapIdx],fun i hi=>?_⟩
  ·rw [hat blk hlt,Array.getElem?_modify,if_pos rfl,hc];rfl
  ·unfold putCells
   rw [Array.getElem?_mapIdx,Array.getElem?_eq_getElem hi]
   simp only [Option.map_some,List.size_toArray,hsl]
   split
   ·rename_i h
    have h2:i - off<(zs.mergeSort fun x y=>decide (x≤y)).length:=by rw [hsl];omega
    rw [getElem!_pos _ _ (by simpa using h2)]
    unfold sortZ
    rw [List.getD_eq_getElem?_getD,List.getElem?_eq_getElem h2];rfl
   ·rfl
end Go.Proofs.YtbieflpgjmgaiaaGreat
