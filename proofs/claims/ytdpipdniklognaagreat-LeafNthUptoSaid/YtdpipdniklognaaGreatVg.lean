/- The program's LeafNth returns true for all numbers that describe a book and all lists of Ids, without an exception and without changing its arguments: a part of the proof. -/
import Derived.Test.YtdpipdniklognaaGreatProg
import Derived.Test.YtdpipdniklognaaGreatChecked
import Derived.Lib.AppendZerosOnto
import Derived.Laws.NewBlocks
import Derived.Laws.IdiomRangeMap
import Derived.WalkKit
set_option linter.all false
/- The machine's walk over a map's entries, whichever comes first: the sets of holes that are hit. -/
set_option maxRecDepth 100000
namespace Go.Proofs.YtdpipdniklognaaGreat
section
open Go.RowKit
variable {P:Program}
def zpu:Value→Int
 | .int _ n=>n
 | _=>0
def zoz (a b:Int):Int:=bits .and .i64 a b
set_option maxRecDepth 1000000 in
theorem zpz (bm:Nat) (es:Array MapEntry) (clock:Nat) (some_:Int) (w:World) (hb:w.heap[bm]? = some (.map es clock)) (hst:∀ x∈es.toList,x.born<clock) (hnd:(es.toList.map (·.born)).Nodup) (hv:∀ x∈es.toList,∃ k,x.key = .int .i64 k) :
  Calls Tryz.prog 85 #[.map (some bm),.int .i64 some_] w fun e w'=>e = .returned (.bool (es.toList.all fun x=>zoz some_ (zpu x.key) != 0))∧∃ (w1:World) (seen:Array Nat),w1.Alike w∧w'=w1.alloc (.mapIter (some bm) clock seen clock):=by
 have hrg:=run_range_map (P:=Tryz.prog) w 108 113 4 bm es clock Tryz.underlying108 hb
 go_enter Tryz.func85,Tryz.ntmps85
 go_wp2
 go_loopw [] (fun w'=>∃ (w1:World) (seen:Array Nat),w1.Alike w∧w'=w1.alloc (.mapIter (some bm) clock seen clock)∧∀ x∈es.toList,seen.contains x.born=true→(zoz some_ (zpu x.key) != 0)=true) (fun w'=>(leftOf es (w'.iterSeen w.heap.size)).size)
 case atStart=>exact ⟨w,#[],⟨rfl,rfl,rfl⟩,rfl,fun x _ h=>by simp at h⟩
 case round =>
  obtain ⟨w1,seen,hal,rfl,hno⟩:=hrel
  have hsz:w1.heap.size=w.heap.size:=by rw [hal.1]
  have hb1:w1.heap[bm]? = some (.map es clock):=by rw [hal.1];exact hb
  have law:=run_next_map (P:=Tryz.prog) w1 0 bm clock clock seen es clock hb1 hst (Nat.le_refl _)
  rw [hsz] at law
  rcases law with ⟨h0,hrun⟩ | ⟨e,he,w2,hal2,hrun⟩
  ·have hnx:∀ ty,(Instr.next (.pointer (some ⟨w.heap.size,0,none⟩)) false ty).run Tryz.prog (w1.alloc (.mapIter (some bm) clock seen clock))=_:=fun _=>hrun
   go_wp2
   go_ret
   have hf:(es.toList.all fun x=>zoz some_ (zpu x.key) != 0)=true:=by
    rw [List.all_eq_true]
    intro x hx
    exact hno x hx (all_seen es seen h0 x hx)
   rw [hf]
   exact ⟨rfl,w1,seen,hal,rfl⟩
  ·obtain ⟨v,hval⟩:=hv e (mem_left he).1
   rw [hval] at hrun
   have hnx:∀ ty,(Instr.next (.pointer (some ⟨w.heap.size,0,none⟩)) false ty).run Tryz.prog (w1.alloc (.mapIter (some bm) clock seen clock))=_:=fun _=>hrun
   have hsz2:w2.heap.size=w.heap.size:=by rw [hal2.1,hal.1]
   have hb2:w2.heap[bm]? = some (.map es clock):=by rw [hal2.1];exact hb1
   have hen:=run_entry_map (P:=Tryz.prog) w2 bm clock seen es clock e hb2 (mem_left he).1 hnd
   rw [hsz2,hval] at hen
   have hal3:w2.Alike w:=⟨hal2.1.trans hal.1,hal2.2.1.trans hal.2.1,hal2.2.2.trans hal.2.2⟩
   go_wp2
   ·rename_i heq
    go_ret
    have ht:(es.toList.all fun x=>zoz some_ (zpu x.key) != 0)=false:=by
     rw [←Bool.not_eq_true,List.all_eq_true]
     intro h
     have h1:=h e (mem_left he).1
     rw [hval] at h1
     have h1:(bits .and .i64 some_ v != 0)=true:=h1
     rw [h1] at heq
     cases heq
    rw [ht]
    exact ⟨rfl,w2,_,hal3,rfl⟩
   ·rename_i hne
    refine ⟨⟨w2,seen.push e.born,hal3,rfl,fun x hx hc=>?_⟩,?_⟩
    ·rw [contains_push] at hc
     rcases Bool.or_eq_true _ _ ▸ hc with h1 | h1
     ·exact hno x hx h1
     ·have:x=e:=born_inj hnd hx (mem_left he).1 (beq_iff_eq.1 h1)
      subst this
      rw [hval]
      show (bits .and .i64 some_ v != 0)=true
      cases hb:(bits .and .i64 some_ v != 0) with
      | true=>rfl
      | false=>rw [hb] at hne;cases hne
    ·rw [←hsz2,World.iterSeen_alloc,hsz2,←hsz,World.iterSeen_alloc]
     exact left_shrinks es seen e he
end
end Go.Proofs.YtdpipdniklognaaGreat
