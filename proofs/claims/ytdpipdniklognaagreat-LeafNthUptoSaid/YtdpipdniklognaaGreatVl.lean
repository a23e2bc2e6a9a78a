/- The program's LeafNth returns true for all numbers that describe a book and all lists of Ids, without an exception and without changing its arguments: a part of the proof. -/
import Derived.Test.YtdpipdniklognaaGreatVj
import Derived.Test.YtdpipdniklognaaGreatVk
import Derived.Shelf.SlSortCmp.NoneTotal
set_option linter.all false
/- The library's sort of neighbours, at this program. -/
set_option maxRecDepth 100000
namespace Go.Proofs.YtdpipdniklognaaGreat
section
open Go.RowKit Go.Sort Go.Shelf
theorem zb1 {x y:Int×Int}:ltOf zmf x y = !leP y x:=by
 have h1:(zmf x y<0) ↔ ¬ (leP y x=true):=by
  rw [leP_iff]
  unfold zmf orZ z9p
  by_cases a:x.1<y.1
  ·rw [if_pos a,if_neg (by decide)];constructor
   ·intro _;omega
   ·intro _;decide
  ·rw [if_neg a]
   by_cases b:y.1<x.1
   ·rw [if_pos b,if_neg (by decide)]
    constructor
    ·intro h;exact absurd h (by decide)
    ·intro h;omega
   ·rw [if_neg b,if_pos rfl]
    by_cases c:x.2<y.2
    ·rw [if_pos c];constructor
     ·intro _;omega
     ·intro _;decide
    ·rw [if_neg c]
     by_cases d:y.2<x.2
     ·rw [if_pos d];constructor
      ·intro h;exact absurd h (by decide)
      ·intro h;omega
     ·rw [if_neg d];constructor
      ·intro h;exact absurd h (by decide)
      ·intro h;omega
 unfold ltOf
 by_cases h:zmf x y<0
 ·rw [decide_eq_true h]
  have:=h1.1 h
  cases hc:leP y x with
  | true=>exact absurd hc this
  | false=>rfl
 ·rw [decide_eq_false h]
  cases hc:leP y x with
  | true=>rfl
  | false=>exact absurd (h1.2 (by rw [hc];decide)) h
theorem zrK:SWO (ltOf zmf) where
 irrefl x:=by rw [zb1,show leP x x=true from leP_iff.2 (.inr ⟨rfl,Int.le_refl _⟩)];rfl
 trans x y z h1 h2:=by
  rw [zb1] at *
  have h1:leP y x=false:=by simpa using h1
  have h2:leP z y=false:=by simpa using h2
  have h3:=z8D h1
  have h4:=z8D h2
  cases hc:leP z x with
  | false=>rfl
  | true =>
   have:=z8C hc h3
   rw [h2] at this;cases this
 ntrans x y z h1 h2:=by
  rw [zb1] at *
  have h1:leP y x=true:=by simpa using h1
  have h2:leP z y=true:=by simpa using h2
  rw [z8C h2 h1];rfl
theorem zlh (blk off size:Nat) (w:World):CmpLays Tryz.prog 79 #[] z9o 2 zmf blk off size w:=fun m os dk _ x y=>by
 refine (zgm x.1 x.2 y.1 y.2 (sortWorldK z9o 2 w blk off m dk os)).mono ?_
 rintro e w' ⟨rfl,rfl⟩
 exact ⟨rfl,1,_,by rw [alloc_eq_grow,alloc_eq_grow,alloc_eq_grow,grow_grow,drew_grow,grow_grow];rfl⟩
theorem z8W:∀ (l:List (Int×Int)) (k:Nat),(z1U l)[k]? = (l[k / 2]?).bind fun x=>(z9o x)[k % 2]?
 | [],k=>by simp [z1U]
 | x::l,k=>by
  have ih:=z8W l
  unfold z1U at *
  rw [List.flatMap_cons]
  by_cases h:k<2
  ·rw [List.getElem?_append_left (by simpa [z9o] using h),show k / 2=0 by omega,Nat.mod_eq_of_lt h];rfl
  ·rw [List.getElem?_append_right (by simp [z9o];omega),show (z9o x).length=2 from rfl,ih,show k / 2=(k - 2) / 2+1 by omega,show k % 2=(k - 2) % 2 by omega];rfl
theorem zkc:zq4 Tryz.prog 78 79:=by
 refine ⟨fun W=>?_,fun blk cap row ss W hrow hpos htake hlen=>?_⟩
 ·have hcon:=AnyF.slices_SortFunc_none zbw none 0 (.func (.func 79) #[] #[]) W
  change Calls Tryz.prog 78 _ _ _ at hcon
  refine hcon.mono ?_
  rintro e w' ⟨rfl,rfl⟩
  exact ⟨rfl,rfl,rfl,Nat.le_refl _,fun _ _=>rfl⟩
 have hrl:ss.length*2≤row.size:=by
  have h1:=congrArg List.length htake
  rw [z4f,List.length_take] at h1
  have h2:row.toList.length=row.size:=Array.length_toList
  omega
 have hget:∀ k,k<ss.length*2→row[k]? = (z1U ss)[k]? :=fun k hk=>by
  rw [←htake,List.getElem?_take,if_pos hk,Array.getElem?_toList]
 have eg:∀ args w,(callFunc 79 args).run Tryz.prog w = .ok (.enter 79 args) w:=enters_of Tryz.func79 (by kernel_rfl) rfl
 have hH:HoldsK z9o 2 W blk 0 ss.toArray:=by
  intro k hk
  rw [size_flatK,List.size_toArray] at hk
  rw [cell_of_row _ _ _ _ _ _ hrow,frozen_of_row _ _ _ _ _ hrow,Nat.zero_add,hget k hk,z8W]
  refine ⟨?_,rfl⟩
  rw [get_flatK _ _ _ _ (by rw [List.size_toArray];exact hk)]
  have h2:k / 2<ss.length:=by omega
  rw [List.getElem?_eq_getElem h2]
  show (z9o ss[k / 2])[k % 2]? = _
  rw [show (ss.toArray)[k / 2]! = ss[k / 2] by rw [getElem!_pos _ _ (by simpa using h2)];simp]
  have h3:k % 2<2:=Nat.mod_lt _ (by decide)
  rcases Nat.lt_or_ge (k % 2) 1 with h4 | h4
  ·rw [show k % 2=0 by omega];rfl
  ·rw [show k % 2=1 by omega];rfl
 have hblk:blk<W.heap.size:=(Array.getElem?_eq_some_iff.1 hrow).1
 have hcon:=AnyQ.slices_SortFunc zbw 2 Tryz.isAgg58 Tryz.sizeOf58 z9o (fun _=>rfl) (fun x v hv=>by simp [z9o] at hv;rcases hv with rfl | rfl <;> rfl) zmf zrK 79 #[] blk 0 cap ss.toArray W eg (zlh blk 0 _ W) hH hblk (by rw [List.size_toArray];omega)
 change Calls Tryz.prog 78 _ _ _ at hcon
 rw [List.size_toArray] at hcon
 refine hcon.mono ?_
 rintro e w' ⟨rfl,d',n,os,hp,hs,rfl⟩
 have hsz:d'.size=ss.length:=by have:=hp.1;simpa using this
 have hperm:d'.toList.Perm ss:=by
  have h:=hp.2.2
  rw [Array.toList_extract,Array.toList_extract,List.extract_eq_take_drop,List.extract_eq_take_drop,Nat.sub_zero,List.drop_zero,List.drop_zero,List.take_of_length_le (by rw [Array.length_toList];omega),List.take_of_length_le (by simp)] at h
  exact h
 have hsorted:d'.toList.Pairwise fun a b=>leP a b=true:=by
  rw [List.pairwise_iff_getElem]
  intro i j hi hj hij
  rw [Array.length_toList] at hi hj
  have h:=hs i j (Nat.zero_le _) hij (by omega)
  rw [zb1,getElem!_pos d' j hj,getElem!_pos d' i hi] at h
  rw [Array.getElem_toList,Array.getElem_toList]
  simpa using h
 have hd:d'.toList=z4b ss:=z6q (hperm.trans (z0H ss).symm) hsorted (z2L ss)
 refine ⟨rfl,rfl,rfl,?_,fun c hc hne=>?_,putCells id 0 (flatK z9o 2 d') row,?_,?_,?_⟩
 ·show W.heap.size≤((W.heap.modify blk _)++os).size
  rw [Array.size_append,Array.size_modify];omega
 ·show ((W.heap.modify blk _)++os)[c]? = _
  rw [Array.getElem?_append_left (by rw [Array.size_modify];exact hc),Array.getElem?_modify,if_neg (Ne.symm hne)]
 ·show ((W.heap.modify blk (onCells (putCells id 0 (flatK z9o 2 d'))))++os)[blk]? = _
  rw [Array.getElem?_append_left (by rw [Array.size_modify];exact hblk),Array.getElem?_modify,if_pos rfl,hrow]
  rfl
 ·unfold putCells
  rw [Array.size_mapIdx]
 ·refine List.ext_getElem? fun k=>?_
  rw [List.getElem?_take]
  by_cases hk:k<ss.length*2
  ·rw [if_pos hk,Array.getElem?_toList]
   have h2:k / 2<d'.size:=by omega
   have e1:(putCells id 0 (flatK z9o 2 d') row)[k]? = some ((flatK z9o 2 d')[k]!):=by
    unfold putCells
    rw [Array.getElem?_mapIdx,Array.getElem?_eq_getElem (show k<row.size by omega)]
    show some (if 0≤k∧k<0+(flatK z9o 2 d').size then id (flatK z9o 2 d')[k - 0]! else _)=_
    rw [if_pos ⟨Nat.zero_le _,by rw [size_flatK,hsz];omega⟩];rfl
   rw [e1,get_flatK _ _ _ _ (by rw [hsz];exact hk),z8W,←hd,Array.getElem?_toList,Array.getElem?_eq_getElem h2,getElem!_pos d' _ h2]
   show _=(z9o d'[k / 2])[k % 2]?
   have h3:k % 2<2:=Nat.mod_lt _ (by decide)
   rcases Nat.lt_or_ge (k % 2) 1 with h4 | h4
   ·rw [show k % 2=0 by omega];rfl
   ·rw [show k % 2=1 by omega];rfl
  ·rw [if_neg hk,List.getElem?_eq_none (by rw [z4f,(z0H ss).length_eq];omega)]
end
end Go.Proofs.YtdpipdniklognaaGreat
