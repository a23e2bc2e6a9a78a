/- The program's LeafNth returns true for all numbers that describe a book and all lists of Ids, without an exception and without changing its arguments: a part of the proof. -/
import Derived.Test.YtdpipdniklognaaGreatVb
import Derived.Test.YtdpipdniklognaaGreatVg
import Derived.Test.YtdpipdniklognaaGreatVl
set_option linter.all false
/- What the evaluator is told of leaf.at and leaf.hit. -/
set_option maxRecDepth 100000
namespace Go.Proofs.YtdpipdniklognaaGreat
section
def z5g:Value→Bool
 | .agg cs=>match cs.toList with
  | [.int .i64 _,.int .i64 _]=>true
  | _=>false
 | _=>false
def z7b:Value→Bool
 | .int .i64 _=>true
 | _=>false
def ziv:Value→Bool
 | .bool _=>true
 | _=>false
noncomputable def znv (S:St) (r:Nat):Option (List (Value×Value)):=ob (S.heap.get r) z8x
noncomputable def zqd (args:List Value) (S:St):Option Value:=match args with
 | [.map (some r),.int .i64 a]=>ob (znv S r) fun es=>gd (es.all fun p=>z7b p.1&&ziv p.2) (some (.bool (es.all fun p=>zoz a (zpu p.1) != 0)))
 | _=>none
noncomputable def atF (args:List Value) (S:St):Option (Nat×List Value×TypeId):=match args with
 | [.map (some r),.int .i64 a]=>ob (znv S r) fun es=>gd ((es.all fun p=>z5g p.1&&z7b p.2)&&Nat.ble es.length 1000000)
   (some ((z4b ((es.filter fun p=>decide (a≤z7p p.2)).map fun p=>z3W p.1)).length,z1U (z4b ((es.filter fun p=>decide (a≤z7p p.2)).map fun p=>z3W p.1)),58))
 | _=>none
section
variable {G:Good} {j:Inj} {S:St} {w:World}
theorem z9K {k k':Value} (h:Yf j k k') (hk:z7b k=true):k'=k:=by
 cases h <;> first | rfl | cases hk
theorem zdG {k k':Value} (h:Yf j k k') (hk:ziv k=true):k'=k:=by
 cases h <;> first | rfl | cases hk
theorem z9J {k:Value} (hk:z5g k=true):∃ a b,k = .agg #[.int .i64 a,.int .i64 b]:=by
 unfold z5g at hk
 split at hk
 ·rename_i cs
  split at hk
  ·rename_i a b hl
   refine ⟨a,b,?_⟩
   congr 1
   exact Array.ext' hl
  ·cases hk
 ·cases hk
theorem zdE {k k':Value} (h:Yf j k k') (hk:z5g k=true):k'=k:=by
 obtain ⟨a,b,rfl⟩:=z9J hk
 obtain ⟨cs,rfl,hc⟩:=h.agg_inv
 congr 1
 apply Array.ext'
 have hc:Yh j [.int .i64 a,.int .i64 b] cs.toList:=hc
 generalize cs.toList=l at hc
 cases hc with
 | cons h1 h2=>cases h1;cases h2 with
  | cons h3 h4=>cases h3;cases h4;rfl
theorem zcc {k:Value} (hk:z7b k=true):∃ a,k = .int .i64 a:=by
 unfold z7b at hk
 split at hk
 ·exact ⟨_,rfl⟩
 ·cases hk
theorem zf0 (hs:Sim G j S w) {r:Nat} {x:JB} (hx:j r=some x) {es:List (Value×Value)} (he:znv S r=some es) (hk:∀ p∈es,∀ k,Yf j p.1 k→k=p.1) (hv:∀ p∈es,∀ k,Yf j p.2 k→k=p.2) :
  ∃ es' clock,w.heap[x.blk]? = some (.map es' clock)∧(∀ y∈es'.toList,y.born<clock)∧(es'.toList.map (·.born)).Nodup∧es'.toList.map (fun e=>(e.key,e.val))=es:=by
 obtain ⟨o,ho,h1⟩:=z8 he
 have:=z3d h1;subst this
 obtain ⟨o',h2,es',c,h3,h4,h5,h6,h7⟩:=hs.objs _ _ _ hx ho
 subst h3
 have hb:∀ i (hi:i<es'.toList.length),es'.toList[i].born=i:=fun i hi=>h7 i _ (by rw [←Array.getElem?_toList];exact List.getElem?_eq_getElem hi)
 refine ⟨es',c,h2,fun y hy=>?_,?_,?_⟩
 ·obtain ⟨i,hi,rfl⟩:=List.mem_iff_getElem.1 hy
  rw [hb i hi,h6,h4,←Array.length_toList];exact hi
 ·rw [List.nodup_iff_pairwise_ne,List.pairwise_iff_getElem]
  intro i k hi hk2 hik
  simp only [List.length_map] at hi hk2
  rw [List.getElem_map,List.getElem_map,hb i hi,hb k hk2]
  omega
 ·refine List.ext_getElem? fun i=>?_
  rw [List.getElem?_map,Array.getElem?_toList]
  by_cases hi:i<es.length
  ·have hp:=List.getElem?_eq_getElem hi
   obtain ⟨e,e1,e2,e3⟩:=h5 i _ hp
   have hm:=List.getElem_mem hi
   rw [e1,hp]
   show some (e.key,e.val)=_
   rw [hk _ hm _ e2,hv _ hm _ e3]
  ·rw [List.getElem?_eq_none (by omega),Array.getElem?_eq_none (by omega)];rfl
theorem all_map {α β : Type} (f : α → β) (p : β → Bool) (l:List α):(l.map f).all p=l.all fun x=>p (f x):=by
 induction l with
 | nil=>rfl
 | cons x l ih=>rw [List.map_cons,List.all_cons,List.all_cons,ih]
theorem znJ (hP:G.P=Tryz.prog) {args:List Value} {v:Value} (h:zqd args S=some v):litV v=true∧∀ j (args':Array Value) w,Sim G j S w→Yh j args args'.toList→Calls G.P 85 args' w fun e w'=>e = .returned v∧SameIo w w'∧w.heap.size≤w'.heap.size∧∀ c,c<w.heap.size→w'.heap[c]? = w.heap[c]? :=by
 unfold zqd at h
 split at h
 ·rename_i r a
  obtain ⟨es,hes,h⟩:=z8 h
  obtain ⟨hall,h⟩:=ze h
  cases h
  refine ⟨rfl,fun j args' w hs ha=>?_⟩
  have hall:=List.all_eq_true.1 hall
  cases args' with
  | mk l =>
   have ha:Yh j [.map (some r),.int .i64 a] l:=ha
   cases ha with
   | cons h1 h2 =>
    cases h2 with
    | cons h3 h4 =>
     cases h4
     cases h3
     cases h1 with
     | @map r x hx =>
      obtain ⟨es',c,e1,e2,e3,e4⟩:=zf0 hs hx hes (fun p hp k hk=>z9K hk (by have:=hall p hp;simp only [Bool.and_eq_true] at this;exact this.1)) (fun p hp k hk=>zdG hk (by have:=hall p hp;simp only [Bool.and_eq_true] at this;exact this.2))
      rw [hP]
      have hkey:∀ y∈es'.toList,∃ k,y.key = .int .i64 k:=fun y hy=>by
       have:(y.key,y.val)∈es:=by rw [←e4];exact List.mem_map.2 ⟨y,hy,rfl⟩
       have:=hall _ this
       simp only [Bool.and_eq_true] at this
       exact zcc this.1
      refine (zpz x.blk es' c a w e1 e2 e3 hkey).mono ?_
      rintro e w' ⟨rfl,w1,seen,hal,rfl⟩
      refine ⟨?_,⟨hal.2.1,rfl,hal.2.2⟩,?_,fun q hq=>?_⟩
      ·rw [←e4,all_map]
      ·rw [World.size_alloc,hal.1];omega
      ·rw [heap_alloc_old _ _ (by rw [hal.1];exact hq),hal.1]
 ·cases h
theorem zq1 (hP:G.P=Tryz.prog) (hE:∃ e,G.E.ti.get 58=some e∧e.size=2) {args:List Value} {q:Nat×List Value×TypeId} (h:atF args S=some q):(∀ v∈q.2.1,litV v=true) ∧
  ∀ j (args':Array Value) w,Sim G j S w→Yh j args args'.toList→Calls G.P 63 args' w fun ex w'=>SameIo w w'∧w.heap.size≤w'.heap.size∧(∀ c,c<w.heap.size→w'.heap[c]? = w.heap[c]?) ∧
   ((q.1=0∧ex = .returned (.slice none 0 0))∨(q.1≠0∧∃ e b g row,G.E.ti.get q.2.2=some e∧q.2.1.length=q.1*e.size∧w.heap.size≤b∧ex = .returned (.slice (some ⟨b,0,none⟩) q.1 g)∧q.1≤g∧w'.heap[b]? = some (.cells row q.2.2 (0,0))∧g*e.size≤row.size∧∀ (i:Nat) (v:Value),q.2.1[i]? = some v→row[i]? = some v)):=by
 obtain ⟨e0,he0,hsz0⟩:=hE
 unfold atF at h
 split at h
 ·rename_i r a
  obtain ⟨es,hes,h⟩:=z8 h
  obtain ⟨hall,h⟩:=ze h
  cases h
  simp only [Bool.and_eq_true] at hall
  obtain ⟨hall,hlen⟩:=hall
  have hlen:=zF hlen
  have hall:=List.all_eq_true.1 hall
  refine ⟨fun v hv=>?_,fun j args' w hs ha=>?_⟩
  ·obtain ⟨p,_,hp⟩:=List.mem_flatMap.1 hv
   simp [z9o] at hp
   rcases hp with rfl | rfl <;> rfl
  cases args' with
  | mk l =>
   have ha:Yh j [.map (some r),.int .i64 a] l:=ha
   cases ha with
   | cons h1 h2 =>
    cases h2 with
    | cons h3 h4 =>
     cases h4
     cases h3
     cases h1 with
     | @map r x hx =>
      obtain ⟨es',c,e1,e2,e3,e4⟩:=zf0 hs hx hes (fun p hp k hk=>zdE hk (by have:=hall p hp;simp only [Bool.and_eq_true] at this;exact this.1)) (fun p hp k hk=>z9K hk (by have:=hall p hp;simp only [Bool.and_eq_true] at this;exact this.2))
      rw [hP]
      have hkey:∀ y∈es'.toList,∃ a b n,y.key = .agg #[.int .i64 a,.int .i64 b]∧y.val = .int .i64 n:=fun y hy=>by
       have:(y.key,y.val)∈es:=by rw [←e4];exact List.mem_map.2 ⟨y,hy,rfl⟩
       have:=hall _ this
       simp only [Bool.and_eq_true] at this
       obtain ⟨p,q,hpq⟩:=z9J this.1
       obtain ⟨n,hn⟩:=zcc this.2
       exact ⟨p,q,n,hpq,hn⟩
      have hesz:es'.size≤1000000:=by
       have:=congrArg List.length e4
       rw [List.length_map,Array.length_toList] at this
       omega
      have hL:atL es' a=z4b ((es.filter fun p=>decide (a≤z7p p.2)).map fun p=>z3W p.1):=by
       unfold atL
       rw [←e4,List.filter_map,List.map_map]
       rfl
      refine (zrm x.blk es' c a w e1 e2 e3 hkey hesz zkc).mono ?_
      rintro ex w' ⟨k1,k2,k3,k4,k5⟩
      rw [hL] at k5
      refine ⟨⟨k1,rfl,k2⟩,k3,k4,?_⟩
      rcases k5 with ⟨k5,k6⟩ | ⟨k5,b,g,row,k6,k7,k8,k9,k10,k11⟩
      ·exact .inl ⟨by rw [k5];rfl,k6⟩
      ·refine .inr ⟨fun h=>k5 (List.eq_nil_of_length_eq_zero h),e0,b,g,row,he0,by rw [hsz0];exact z4f _,k6,k7,k8,k9,by rw [hsz0];exact k10,k11⟩
 ·cases h
end
end
end Go.Proofs.YtdpipdniklognaaGreat
