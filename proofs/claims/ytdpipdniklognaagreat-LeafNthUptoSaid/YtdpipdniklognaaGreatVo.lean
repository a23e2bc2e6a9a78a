/- The program's LeafNth returns true for all numbers that describe a book and all lists of Ids, without an exception and without changing its arguments: a part of the proof. -/
import Derived.Shelf.LaySoft
import Derived.Shelf.Lay
import Derived.Shelf.Sort.Plain
import Derived.Shelf.Slices.In.SortNone
import Derived.Test.YtdpipdniklognaaGreatChecked
import Derived.Test.YtdpipdniklognaaGreatProg
import Derived.Test.YtdpipdniklognaaGreatVb
set_option linter.all false
set_option maxRecDepth 100000
namespace Go.Proofs.YtdpipdniklognaaGreat
section
open Go.Shelf
shelf_try shelf_lay Lays.n189 Nm 189 at Tryz as sort_lay
shelf_tried
end
section
open Go.Sort Go.Shelf
theorem zht (p:Option Addr) (cap:Nat) (w:World):Calls Tryz.prog 73 #[.slice p 0 cap] w fun e w'=>e = .returned (.tuple #[])∧w'=w:=Any.slices_Sort_int_none sort_lay p cap w
theorem zkb:zjL Tryz.prog 73:=by
 intro blk off cap zs w c ty hlen hc hoff hz
 have hlt:blk<w.heap.size:=(Array.getElem?_eq_some_iff.1 hc).1
 have hget:∀ j,j<zs.length→zs.toArray[j]! = zs.getD j 0:=fun j hj=>by
  rw [getElem!_pos _ _ (by simpa using hj),List.getD_eq_getElem?_getD,List.getElem?_eq_getElem hj];simp
 have hH:Holds (Value.int .i64) w blk off zs.toArray:=fun j hj=>by
  have hj:j<zs.length:=by simpa using hj
  refine ⟨?_,?_⟩
  ·unfold World.cell?
   simp only [hc]
   rw [if_neg (by simp),hz j hj,hget j hj]
  ·unfold World.frozen?
   simp only [hc]
   simp
 refine (Any.slices_Sort_int sort_lay blk off cap zs w hH hlt hlen).mono ?_
 rintro e w' ⟨rfl,n,os,rfl⟩
 have hsl:(zs.mergeSort fun x y=>decide (x≤y)).length=zs.length:=List.length_mergeSort _
 have hm:(mapBlock (Sort.ahead w n) blk (putCells (Value.int .i64) off (zs.mergeSort fun x y=>decide (x≤y)).toArray)).heap=w.heap.modify blk (onCells (putCells (Value.int .i64) off (zs.mergeSort fun x y=>decide (x≤y)).toArray)):=rfl
 have hsz:(grow (putRow (Value.int .i64) (Sort.ahead w n) blk off (zs.mergeSort fun x y=>decide (x≤y)).toArray) os).heap.size=w.heap.size+os.size:=by
  show (_++os).size=_
  rw [Array.size_append]
  show (w.heap.modify blk _).size+os.size=_
  rw [Array.size_modify]
 have hat:∀ k,k<w.heap.size→(grow (putRow (Value.int .i64) (Sort.ahead w n) blk off (zs.mergeSort fun x y=>decide (x≤y)).toArray) os).heap[k]? = (w.heap.modify blk (onCells (putCells (Value.int .i64) off (zs.mergeSort fun x y=>decide (x≤y)).toArray)))[k]? :=fun k hk=>by
  show (_++os)[k]? = _
  exact Array.getElem?_append_left (by show k<(w.heap.modify blk _).size;rw [Array.size_modify];exact hk)
 refine ⟨rfl,⟨rfl,rfl,rfl⟩,by rw [hsz];omega,fun k hk hne=>?_,?_⟩
 ·rw [hat k hk,Array.getElem?_modify,if_neg (fun e=>hne e.symm)]
 ·refine ⟨putCells (Value.int .i64) off (zs.mergeSort fun x y=>decide (x≤y)).toArray c,?_,by unfold putCells;rw [Array.size_mapIdx],fun i hi=>?_⟩
  ·rw [hat blk hlt,Array.getElem?_modify,if_pos rfl,hc];rfl
  ·unfold putCells
   rw [Array.getElem?_mapIdx,Array.getElem?_eq_getElem hi]
   simp only [Option.map_some,List.size_toArray,hsl]
   split
   ·rename_i h
    have h2:i - off<(zs.mergeSort fun x y=>decide (x≤y)).length:=by rw [hsl];omega
    rw [getElem!_pos _ _ (by simpa using h2)]
    unfold z6r
    rw [List.getD_eq_getElem?_getD,List.getElem?_eq_getElem h2];rfl
   ·rfl
end
end Go.Proofs.YtdpipdniklognaaGreat
