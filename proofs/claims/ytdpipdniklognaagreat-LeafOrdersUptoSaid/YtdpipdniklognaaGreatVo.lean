/- The program's LeafOrders returns true for all heaps, papers, numbers, orders and holes, valid or not, without an exception and without changing its arguments: a part of the proof. -/
import Derived.Shelf.Sort.Plain
import Derived.Shelf.Slices.In.SortNone
import Derived.Test.YtdpipdniklognaaGreatChecked
import Derived.Test.YtdpipdniklognaaGreatProg
import Derived.Test.YtdpipdniklognaaGreatVb
set_option linter.all false
/- What the library's sort of ints stands on, at this program. -/
namespace Go.Proofs.YtdpipdniklognaaGreat
open Go.Shelf
def zi8:Go.Shelf.Ren:=⟨fun | 189=>73 | 125=>125 | 257=>124 | 128=>161 | 129=>162 | 294=>152 | 295=>153 | 296=>154 | 297=>155 | 298=>156 | 299=>157 | 216=>158 | 300=>159 | 301=>160 | 328=>173 | 329=>174 | 330=>175 | 331=>176 | 332=>177 | 215=>171 | 343=>182 | n=>n,fun | 28=>37 | 3=>3 | 46=>149 | 0=>0 | 51=>177 | 53=>179 | 4=>4 | 183=>170 | 182=>169 | 131=>122 | 5=>5 | 9=>9 | 218=>185 | 222=>189 | 228=>194 | 229=>136 | n=>n,fun | n=>n⟩
theorem zd5:Go.Proofs.Lays.n189 Tryz.prog zi8:={
 mixed:=by kernel_rfl
 f125:=Tryz.func125.trans (congrArg some (by kernel_rfl))
 f128:=Tryz.func161.trans (congrArg some (by kernel_rfl))
 f129:=Tryz.func162.trans (congrArg some (by kernel_rfl))
 f189:=Tryz.func73.trans (congrArg some (by kernel_rfl))
 f215:=Tryz.func171.trans (congrArg some (by kernel_rfl))
 f216:=Tryz.func158.trans (congrArg some (by kernel_rfl))
 f257:=Tryz.func124.trans (congrArg some (by kernel_rfl))
 f294:=Tryz.func152.trans (congrArg some (by kernel_rfl))
 f295:=Tryz.func153.trans (congrArg some (by kernel_rfl))
 f296:=Tryz.func154.trans (congrArg some (by kernel_rfl))
 f297:=Tryz.func155.trans (congrArg some (by kernel_rfl))
 f298:=Tryz.func156.trans (congrArg some (by kernel_rfl))
 f299:=Tryz.func157.trans (congrArg some (by kernel_rfl))
 f300:=Tryz.func159.trans (congrArg some (by kernel_rfl))
 f301:=Tryz.func160.trans (congrArg some (by kernel_rfl))
 f328:=Tryz.func173.trans (congrArg some (by kernel_rfl))
 f329:=Tryz.func174.trans (congrArg some (by kernel_rfl))
 f330:=Tryz.func175.trans (congrArg some (by kernel_rfl))
 f331:=Tryz.func176.trans (congrArg some (by kernel_rfl))
 f332:=Tryz.func177.trans (congrArg some (by kernel_rfl))
 f343:=Tryz.func182.trans (congrArg some (by kernel_rfl))
 t0:=Tryz.underlying0
 a0:=Tryz.isAgg0
 z0:=Tryz.sizeOf0
 v0:=Tryz.zeroValue0
 t3:=Tryz.underlying3
 a3:=Tryz.isAgg3
 z3:=Tryz.sizeOf3
 v3:=Tryz.zeroValue3
 t4:=Tryz.underlying4
 a4:=Tryz.isAgg4
 z4:=Tryz.sizeOf4
 v4:=Tryz.zeroValue4
 t5:=Tryz.underlying5
 a5:=Tryz.isAgg5
 z5:=Tryz.sizeOf5
 v5:=Tryz.zeroValue5
 t9:=Tryz.underlying9
 a9:=Tryz.isAgg9
 z9:=Tryz.sizeOf9
 v9:=Tryz.zeroValue9
 t28:=Tryz.underlying37
 a28:=Tryz.isAgg37
 z28:=Tryz.sizeOf37
 v28:=Tryz.zeroValue37
 t46:=Tryz.underlying149
 a46:=Tryz.isAgg149
 z46:=Tryz.sizeOf149
 v46:=Tryz.zeroValue149
 t51:=Tryz.underlying177
 a51:=Tryz.isAgg177
 z51:=Tryz.sizeOf177
 v51:=Tryz.zeroValue177
 t53:=Tryz.underlying179
 a53:=Tryz.isAgg179
 z53:=Tryz.sizeOf179
 v53:=Tryz.zeroValue179
 t131:=Tryz.underlying122
 a131:=Tryz.isAgg122
 z131:=Tryz.sizeOf122
 v131:=Tryz.zeroValue122
 t182:=Tryz.underlying169
 a182:=Tryz.isAgg169
 z182:=Tryz.sizeOf169
 v182:=Tryz.zeroValue169
 t183:=Tryz.underlying170
 a183:=Tryz.isAgg170
 z183:=Tryz.sizeOf170
 v183:=Tryz.zeroValue170
 t218:=Tryz.underlying185
 a218:=Tryz.isAgg185
 z218:=Tryz.sizeOf185
 v218:=Tryz.zeroValue185
 t222:=Tryz.underlying189
 a222:=Tryz.isAgg189
 z222:=Tryz.sizeOf189
 v222:=Tryz.zeroValue189
 t228:=Tryz.underlying194
 a228:=Tryz.isAgg194
 z228:=Tryz.sizeOf194
 v228:=Tryz.zeroValue194
 t229:=Tryz.underlying136
 a229:=Tryz.isAgg136
 z229:=Tryz.sizeOf136
 v229:=Tryz.zeroValue136 }
end Go.Proofs.YtdpipdniklognaaGreat
/- The library's sort of ints, in the evaluator's words. -/
namespace Go.Proofs.YtdpipdniklognaaGreat
open Go.Sort Go.Shelf
theorem zfK (p:Option Addr) (cap:Nat) (w:World):Calls Tryz.prog 73 #[.slice p 0 cap] w fun e w'=>e = .returned (.tuple #[])∧w'=w:=Any.slices_Sort_int_none zd5 p cap w
theorem zi9:zhO Tryz.prog 73:=by
 intro blk off cap zs w c ty hlen hc hoff hz
 have hlt:blk<w.heap.size:=(Array.getElem?_eq_some_iff.1 hc).1
 have hget:∀ j,j<zs.length→zs.toArray[j]! = zs.getD j 0:=fun j hj=>by
  rw [getElem!_pos _ _ (by simpa using hj),List.getD_eq_getElem?_getD,List.getElem?_eq_getElem hj];simp
 have hH:Holds (Value.int .i64) w blk off zs.toArray:=fun j hj=>by
  have hj:j<zs.length:=by simpa using hj
  refine ⟨?_,?_⟩
  ·unfold World.cell?
   simp only [hc]
   rw [if_neg (by simp),hz j hj,hget j hj]
  ·unfold World.frozen?
   simp only [hc]
   simp
 refine (Any.slices_Sort_int zd5 blk off cap zs w hH hlt hlen).mono ?_
 rintro e w' ⟨rfl,n,os,rfl⟩
 have hsl:(zs.mergeSort fun x y=>decide (x≤y)).length=zs.length:=List.length_mergeSort _
 have hm:(mapBlock (Sort.ahead w n) blk (putCells (Value.int .i64) off (zs.mergeSort fun x y=>decide (x≤y)).toArray)).heap=w.heap.modify blk (onCells (putCells (Value.int .i64) off (zs.mergeSort fun x y=>decide (x≤y)).toArray)):=rfl
 have hsz:(grow (putRow (Value.int .i64) (Sort.ahead w n) blk off (zs.mergeSort fun x y=>decide (x≤y)).toArray) os).heap.size=w.heap.size+os.size:=by
  show (_++os).size=_
  rw [Array.size_append]
  show (w.heap.modify blk _).size+os.size=_
  rw [Array.size_modify]
 have hat:∀ k,k<w.heap.size→(grow (putRow (Value.int .i64) (Sort.ahead w n) blk off (zs.mergeSort fun x y=>decide (x≤y)).toArray) os).heap[k]? = (w.heap.modify blk (onCells (putCells (Value.int .i64) off (zs.mergeSort fun x y=>decide (x≤y)).toArray)))[k]? :=fun k hk=>by
  show (_++os)[k]? = _
  exact Array.getElem?_append_left (by show k<(w.heap.modify blk _).size;rw [Array.size_modify];exact hk)
 refine ⟨rfl,⟨rfl,rfl,rfl⟩,by rw [hsz];omega,fun k hk hne=>?_,?_⟩
 ·rw [hat k hk,Array.getElem?_modify,if_neg (fun e=>hne e.symm)]
 ·refine ⟨putCells (Value.int .i64) off (zs.mergeSort fun x y=>decide (x≤y)).toArray c,?_,by unfold putCells;rw [Array.size_mapIdx],fun i hi=>?_⟩
  ·rw [hat blk hlt,Array.getElem?_modify,if_pos rfl,hc];rfl
  ·unfold putCells
   rw [Array.getElem?_mapIdx,Array.getElem?_eq_getElem hi]
   simp only [Option.map_some,List.size_toArray,hsl]
   split
   ·rename_i h
    have h2:i - off<(zs.mergeSort fun x y=>decide (x≤y)).length:=by rw [hsl];omega
    rw [getElem!_pos _ _ (by simpa using h2)]
    unfold z5B
    rw [List.getD_eq_getElem?_getD,List.getElem?_eq_getElem h2];rfl
   ·rfl
end Go.Proofs.YtdpipdniklognaaGreat
