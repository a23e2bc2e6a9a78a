/- The program's LeafEither returns true for all numbers that describe a book, all turns and all lists of holes, without an exception and without changing its arguments: a part of the proof. -/
import Derived.Test.YtdpipdniklognaaGreatVx
import Derived.Test.YtdpipdniklognaaGreatVe
import Derived.Test.YtdpipdniklognaaGreatRows
import Derived.Test.YtdpipdniklognaaGreatVw
import Derived.JoinedCond
set_option linter.all false
/- Plain: the first list of holes of those that meet all sets; the same by sets. -/
set_option maxRecDepth 100000
namespace Go.Proofs.YtdpipdniklognaaGreat
def Inc:Nat→List Nat→Prop
 | _,[]=>True
 | k,a::l=>k≤a∧a<12∧Inc (a+1) l
def zcw:List Nat→List Nat→Bool
 | a::l,b::m=>bif a==b then zcw l m else decide (a<b)
 | _,_=>false
theorem zcq {a:Nat} {l m:List Nat}:zcw (a::l) (a::m)=zcw l m:=by
 show (bif a==a then _ else _)=_
 rw [beq_self_eq_true];rfl
theorem z7a {a b:Nat} {l m:List Nat} (h:a≠b):zcw (a::l) (b::m)=decide (a<b):=by
 show (bif a==b then _ else _)=_
 rw [show (a==b)=false by rw [←Bool.not_eq_true,beq_iff_eq];exact h];rfl
theorem z9b {α : Type} {g:Nat→Option α}:∀ c k,(scan g c k=none∧∀ i,i<c→g (k+i)=none)∨∃ d x,d<c∧(∀ i,i<d→g (k+i)=none)∧g (k+d)=some x∧scan g c k=some x
 | 0,k=>.inl ⟨rfl,fun i hi=>absurd hi (Nat.not_lt_zero i)⟩
 | c+1,k=>by
  cases h:g k with
  | some x=>exact .inr ⟨0,x,Nat.succ_pos _,fun i hi=>absurd hi (Nat.not_lt_zero i),h,by show (match g k with | some x=>some x | none=>scan g c (k+1))=_;rw [h]⟩
  | none =>
   have e:scan g (c+1) k=scan g c (k+1):=by show (match g k with | some x=>some x | none=>scan g c (k+1))=_;rw [h]
   rw [e]
   have hst:∀ d,(∀ i,i<d→g (k+1+i)=none)→∀ i,i<d+1→g (k+i)=none:=fun d hd i hi=>by
    cases i with
    | zero=>exact h
    | succ i=>rw [show k+(i+1)=k+1+i by omega];exact hd i (by omega)
   rcases z9b (g:=g) c (k+1) with ⟨h1,h2⟩ | ⟨d,x,hd,h1,h2,h3⟩
   ·exact .inl ⟨h1,hst c h2⟩
   ·exact .inr ⟨d+1,x,by omega,hst d h1,by rw [show k+(d+1)=k+1+d by omega];exact h2,h3⟩
theorem z7r {P:List Nat→Bool}:∀ f k pre,
  (fnd P f k pre=none∧∀ l,Inc k l→l.length=f→P (pre++l)=false) ∨
  (∃ l,fnd P f k pre=some (pre++l)∧Inc k l∧l.length=f∧P (pre++l)=true∧∀ m,Inc k m→m.length=f→P (pre++m)=true→zcw m l=false)
 | 0,k,pre=>by
  have e:fnd P 0 k pre=bif P pre then some pre else none:=rfl
  rw [e]
  cases h:P pre with
  | false =>
   refine .inl ⟨rfl,fun l _ hl=>?_⟩
   rw [List.length_eq_zero_iff.1 hl,List.append_nil,h]
  | true =>
   refine .inr ⟨[],by rw [List.append_nil];rfl,trivial,rfl,by rw [List.append_nil,h],fun m _ hm _=>?_⟩
   rw [List.length_eq_zero_iff.1 hm];rfl
 | f+1,k,pre=>by
  have e:fnd P (f+1) k pre=scan (fun i=>fnd P f (i+1) (pre++[i])) (12 - k) k:=rfl
  rw [e]
  have hap:∀ (a:Nat) (t:List Nat),pre++a::t=pre++[a]++t:=fun a t=>by rw [List.append_assoc];rfl
  have hno:∀ a t,fnd P f (a+1) (pre++[a])=none→Inc (a+1) t→t.length=f→P (pre++a::t)=false:=fun a t h0 hi hl=>by
   rcases z7r (P:=P) f (a+1) (pre++[a]) with ⟨_,h2⟩ | ⟨l,h1,_⟩
   ·rw [hap];exact h2 t hi hl
   ·rw [h0] at h1;cases h1
  rcases z9b (g:=fun i=>fnd P f (i+1) (pre++[i])) (12 - k) k with ⟨h1,h2⟩ | ⟨d,x,hd,h1,h2,h3⟩
  ·refine .inl ⟨h1,fun l hi hl=>?_⟩
   cases l with
   | nil=>cases hl
   | cons a t =>
    obtain ⟨g1,g2,g3⟩:=hi
    have:=h2 (a - k) (by omega)
    rw [show k+(a - k)=a by omega] at this
    exact hno a t this g3 (Nat.succ.inj hl)
  ·rcases z7r (P:=P) f (k+d+1) (pre++[k+d]) with ⟨q1,_⟩ | ⟨t,q1,q2,q3,q4,q5⟩
   ·have h2:fnd P f (k+d+1) (pre++[k+d])=some x:=h2
    rw [q1] at h2;cases h2
   ·have h2:fnd P f (k+d+1) (pre++[k+d])=some x:=h2
    rw [q1] at h2
    refine .inr ⟨(k+d)::t,(h3.trans h2.symm).trans (congrArg some (hap _ _).symm),⟨by omega,by omega,q2⟩,by rw [List.length_cons,q3],by rw [hap];exact q4,fun m hm hl hP=>?_⟩
    cases m with
    | nil=>cases hl
    | cons b u =>
     obtain ⟨g1,g2,g3⟩:=hm
     have hlu:u.length=f:=Nat.succ.inj hl
     by_cases c1:b=k+d
     ·subst c1
      rw [zcq]
      exact q5 u g3 hlu (by rw [←hap];exact hP)
     ·rw [z7a c1]
      refine decide_eq_false fun c2=>?_
      have:=h1 (b - k) (by omega)
      rw [show k+(b - k)=b by omega] at this
      rw [hno b u this g3 hlu] at hP;cases hP
def zcg (a b:List Nat):Bool:=decide (a.length<b.length)||(decide (a.length=b.length)&&zcw a b)
theorem bet_iff {a b:List Nat}:zcg a b=true ↔ a.length<b.length∨(a.length=b.length∧zcw a b=true):=by
 unfold zcg
 rw [Bool.or_eq_true,Bool.and_eq_true,decide_eq_true_iff,decide_eq_true_iff]
theorem zcp:∀ {a b c:List Nat},zcw a b=true→zcw b c=true→zcw a c=true
 | [],_,_,h,_=>by cases h
 | _::_,[],_,h,_=>by cases h
 | _::_,_::_,[],_,h=>by cases h
 | x::a,y::b,z::c,h1,h2=>by
  by_cases e1:x=y
  ·subst e1
   rw [zcq] at h1
   by_cases e2:x=z
   ·subst e2
    rw [zcq] at h2 ⊢
    exact zcp h1 h2
   ·rw [z7a e2] at h2 ⊢;exact h2
  ·rw [z7a e1] at h1
   have h1:=of_decide_eq_true h1
   by_cases e2:y=z
   ·subst e2
    rw [z7a e1];exact decide_eq_true h1
   ·rw [z7a e2] at h2
    have h2:=of_decide_eq_true h2
    rw [z7a (by omega)];exact decide_eq_true (by omega)
theorem ziP:∀ {a b:List Nat},a.length=b.length→zcw a b=false→zcw b a=false→a=b
 | [],[],_,_,_=>rfl
 | [],_::_,h,_,_=>by cases h
 | _::_,[],h,_,_=>by cases h
 | x::a,y::b,h,h1,h2=>by
  by_cases e:x=y
  ·subst e
   rw [zcq] at h1 h2
   rw [ziP (Nat.succ.inj h) h1 h2]
  ·rw [z7a e] at h1
   rw [z7a (Ne.symm e)] at h2
   have h1:=of_decide_eq_false h1
   have h2:=of_decide_eq_false h2
   omega
theorem ziH {a b c:List Nat} (h1:zcg a b=true) (h2:zcg b c=true):zcg a c=true:=by
 rw [bet_iff] at h1 h2 ⊢
 rcases h1 with h1 | ⟨h1,h3⟩
 ·rcases h2 with h2 | ⟨h2,_⟩ <;> exact .inl (by omega)
 ·rcases h2 with h2 | ⟨h2,h4⟩
  ·exact .inl (by omega)
  ·exact .inr ⟨by omega,zcp h3 h4⟩
theorem zmW {a b:List Nat} (h1:zcg a b=false) (h2:zcg b a=false):a=b:=by
 have n1:¬ (a.length<b.length∨(a.length=b.length∧zcw a b=true)):=fun h=>by rw [bet_iff.2 h] at h1;cases h1
 have n2:¬ (b.length<a.length∨(b.length=a.length∧zcw b a=true)):=fun h=>by rw [bet_iff.2 h] at h2;cases h2
 have e:a.length=b.length:=by omega
 refine ziP e ?_ ?_
 ·rw [←Bool.not_eq_true];exact fun h=>n1 (.inr ⟨e,h⟩)
 ·rw [←Bool.not_eq_true];exact fun h=>n2 (.inr ⟨e.symm,h⟩)
theorem zlj {a b:List Nat} (h1:¬ a.length<b.length) (h2:a.length=b.length→zcw a b=false):zcg a b=false:=by
 rw [←Bool.not_eq_true,bet_iff]
 rintro (h | ⟨h,g⟩)
 ·exact h1 h
 ·rw [h2 h] at g;cases g
theorem zdD {P:List Nat→Bool}:∀ k,cfF P k=none→∀ l,Inc 0 l→l.length<k→P l=false
 | 0,_,l,_,h=>absurd h (Nat.not_lt_zero _)
 | k+1,h,l,hi,hl=>by
  have h:(match cfF P k with | some row=>some row | none=>fnd P k 0 [])=none:=h
  cases e:cfF P k with
  | some row=>rw [e] at h;cases h
  | none =>
   rw [e] at h
   by_cases c:l.length<k
   ·exact zdD k e l hi c
   ·rcases z7r (P:=P) k 0 [] with ⟨_,h2⟩ | ⟨m,h1,_⟩
    ·exact h2 l hi (by omega)
    ·have h:fnd P k 0 []=none:=h
     rw [h1] at h;cases h
theorem zdC {P:List Nat→Bool} {row:List Nat}:∀ k,cfF P k=some row→Inc 0 row∧row.length<k∧P row=true∧∀ m,Inc 0 m→P m=true→zcg m row=false
 | 0,h=>by cases h
 | k+1,h=>by
  have h:(match cfF P k with | some row=>some row | none=>fnd P k 0 [])=some row:=h
  cases e:cfF P k with
  | some row2 =>
   rw [e] at h;cases h
   obtain ⟨h1,h2,h3⟩:=zdC k e
   exact ⟨h1,by omega,h3⟩
  | none =>
   rw [e] at h
   have h:fnd P k 0 []=some row:=h
   rcases z7r (P:=P) k 0 [] with ⟨h1,_⟩ | ⟨l,h1,h2,h3,h4,h5⟩
   ·rw [h1] at h;cases h
   ·rw [h1] at h;cases h
    refine ⟨h2,by show l.length<_;omega,h4,fun m hm hP=>zlj (fun c=>?_) fun c=>?_⟩
    ·have:m.length<l.length:=c
     rw [zdD k e m hm (by omega)] at hP;cases hP
    ·have:m.length=l.length:=c
     exact h5 m hm (by omega) hP
theorem z8o:∀ {k} {l:List Nat},Inc k l→k≤12→l.length+k≤12
 | k,[],_,h=>by simpa using h
 | k,a::l,⟨h1,h2,h3⟩,_=>by
  have:=z8o h3 (by omega)
  rw [List.length_cons];omega
theorem z3N:∀ {k} {l:List Nat},Inc k l→∀ x∈l,k≤x∧x<12
 | k,[],_,x,h=>by cases h
 | k,a::l,⟨h1,h2,h3⟩,x,h=>by
  rcases List.mem_cons.1 h with rfl | h
  ·exact ⟨h1,h2⟩
  ·have:=z3N h3 x h;omega
theorem zhJ:∀ {k} {l:List Nat},l.Pairwise (· < ·)→(∀ x∈l,k≤x∧x<12)→Inc k l
 | k,[],_,_=>trivial
 | k,a::l,hp,h=>by
  rw [List.pairwise_cons] at hp
  exact ⟨(h a List.mem_cons_self).1,(h a List.mem_cons_self).2,zhJ hp.2 fun x hx=>⟨hp.1 x hx,(h x (List.mem_cons_of_mem _ hx)).2⟩⟩
def z5Z (s:Nat):List Nat:=(List.range 12).filter fun k=>s.testBit k
theorem z5a (s:Nat):Inc 0 (z5Z s):=zhJ (List.pairwise_lt_range.filter _) fun x hx=>⟨Nat.zero_le _,List.mem_range.1 (List.mem_filter.1 hx).1⟩
theorem zcP {s:Nat} (h:s<4096):zS (z5Z s)=s:=by
 have key:(List.range 4096).all (fun s=>Nat.beq (zS (z5Z s)) s)=true:=by decide +kernel
 exact Nat.eq_of_beq_eq_true (List.all_eq_true.1 key s (List.mem_range.2 h))
theorem zgM (k:Nat):∀ (l:List Nat) (m:Nat),(l.foldl (fun m k=>m ||| 1 <<< k) m).testBit k=(m.testBit k||l.contains k)
 | [],m=>by simp
 | a::l,m=>by
  show (l.foldl (fun m k=>m ||| 1 <<< k) (m ||| 1 <<< a)).testBit k=_
  rw [zgM k l,Nat.testBit_or,Nat.one_shiftLeft,Nat.testBit_two_pow,List.contains_cons,Bool.or_assoc]
  congr 2
  rw [Bool.eq_iff_iff,decide_eq_true_iff,beq_iff_eq];exact eq_comm
theorem zjn (l:List Nat) (k:Nat):(zS l).testBit k=l.contains k:=by
 unfold zS
 rw [zgM,Nat.zero_testBit,Bool.false_or]
theorem zhK:∀ {k} {l m:List Nat},Inc k l→Inc k m→(∀ x,x∈l ↔ x∈m)→l=m
 | _,[],[],_,_,_=>rfl
 | _,[],b::m,_,_,h=>by have:=(h b).2 List.mem_cons_self;cases this
 | _,a::l,[],_,_,h=>by have:=(h a).1 List.mem_cons_self;cases this
 | k,a::l,b::m,h1,h2,h=>by
  have e:a=b:=by
   rcases List.mem_cons.1 ((h a).1 List.mem_cons_self) with g | g
   ·exact g
   ·rcases List.mem_cons.1 ((h b).2 List.mem_cons_self) with q | q
    ·exact q.symm
    ·have:=(z3N h2.2.2 a g).1
     have:=(z3N h1.2.2 b q).1
     omega
  subst e
  rw [zhK h1.2.2 h2.2.2 fun x=>⟨fun g=>?_,fun g=>?_⟩]
  ·rcases List.mem_cons.1 ((h x).1 (List.mem_cons_of_mem _ g)) with q | q
   ·have:=(z3N h1.2.2 x g).1;omega
   ·exact q
  ·rcases List.mem_cons.1 ((h x).2 (List.mem_cons_of_mem _ g)) with q | q
   ·have:=(z3N h2.2.2 x g).1;omega
   ·exact q
theorem zho {l:List Nat} (h:Inc 0 l):z5Z (zS l)=l:=by
 refine zhK (z5a _) h fun x=>?_
 unfold z5Z
 rw [List.mem_filter,zjn,List.contains_iff_mem,List.mem_range]
 exact ⟨fun g=>g.2,fun g=>⟨(z3N h x g).2,g⟩⟩
def bst (B:List Nat):Nat→List Nat
 | 0=>z5Z 4095
 | k+1=>bif zcg (z5Z k) (bst B k)&&zY B k then z5Z k else bst B k
theorem zeS {B:List Nat} (h0:zY B 4095=true):∀ k,k≤4096→(∃ s,s<4096∧zY B s=true∧bst B k=z5Z s)∧∀ s,s<k→zY B s=true→zcg (z5Z s) (bst B k)=false
 | 0,_=>⟨⟨4095,by decide,h0,rfl⟩,fun s hs=>absurd hs (Nat.not_lt_zero s)⟩
 | k+1,hk=>by
  obtain ⟨h1,h2⟩:=zeS h0 k (by omega)
  have e:bst B (k+1)=bif zcg (z5Z k) (bst B k)&&zY B k then z5Z k else bst B k:=rfl
  rw [e]
  cases hb:zcg (z5Z k) (bst B k)&&zY B k with
  | true =>
   rw [Bool.and_eq_true] at hb
   refine ⟨⟨k,by omega,hb.2,rfl⟩,fun s hs hh=>?_⟩
   show zcg (z5Z s) (z5Z k)=false
   by_cases c:s=k
   ·subst c
    refine zlj (Nat.lt_irrefl _) fun _=>?_
    rw [←Bool.not_eq_true]
    intro g
    have:∀ l:List Nat,zcw l l=false:=fun l=>by
     induction l with
     | nil=>rfl
     | cons a l ih=>rw [zcq];exact ih
    rw [this] at g;cases g
   ·rw [←Bool.not_eq_true]
    intro g
    have:=ziH g hb.1
    rw [h2 s (by omega) hh] at this;cases this
  | false =>
   refine ⟨h1,fun s hs hh=>?_⟩
   show zcg (z5Z s) (bst B k)=false
   by_cases c:s=k
   ·subst c
    rw [hh,Bool.and_true] at hb;exact hb
   ·exact h2 s (by omega) hh
theorem zmu {B:List Nat} {a:Nat} (hB:∀ w∈B,w<4096) (h:zY B a=true):zY B 4095=true:=by
 unfold zY at h ⊢
 rw [List.all_eq_true] at h ⊢
 intro w hw
 have h1:=h w hw
 have h2:=hB w hw
 rw [show (4095:Nat)=2 ^ 12 - 1 from rfl,Nat.and_comm,Nat.and_two_pow_sub_one_eq_mod,Nat.mod_eq_of_lt h2]
 cases w with
 | zero=>rw [Nat.and_zero] at h1;exact h1
 | succ w=>rfl
theorem ziu {B:List Nat} (hB:∀ w∈B,w<4096):cfF (fun l=>zY B (zS l)) 13=bif zY B 4095 then some (bst B 4096) else none:=by
 cases hc:cfF (fun l=>zY B (zS l)) 13 with
 | none =>
  have h1:=zdD 13 hc (z5Z 4095) (z5a _) (by have:=z8o (z5a 4095) (by decide);omega)
  have h1:zY B (zS (z5Z 4095))=false:=h1
  rw [zcP (by decide)] at h1
  rw [h1];rfl
 | some row =>
  obtain ⟨h1,_,h3,h4⟩:=zdC 13 hc
  have h5:=zmu hB h3
  rw [h5,cond_true]
  obtain ⟨⟨s,q1,q2,q3⟩,q4⟩:=zeS h5 4096 (Nat.le_refl _)
  rw [q3] at q4 ⊢
  refine congrArg some (zmW ?_ ?_)
  ·have g:zS row<4096:=z7L row fun k hk=>(z3N h1 k hk).2
   have:=q4 (zS row) g h3
   rw [zho h1] at this;exact this
  ·refine h4 (z5Z s) (z5a s) ?_
   show zY B (zS (z5Z s))=true
   rw [zcP q1];exact q2
end Go.Proofs.YtdpipdniklognaaGreat
/- Walks of the reference: sets of holes that runs break, holes of a set, Conflict. -/
set_option maxRecDepth 100000
namespace Go.Proofs.YtdpipdniklognaaGreat
variable {r:Rm}
end Go.Proofs.YtdpipdniklognaaGreat
/- Walks of the reference: the sets that runs break; Conflict. -/
set_option maxRecDepth 100000
namespace Go.Proofs.YtdpipdniklognaaGreat
variable {r:Rm}
theorem z8J {h:Hp} {p:Int}:∀ w∈zZ h p,w<4096:=fun w hw=>by
 obtain ⟨x,_,rfl⟩:=List.mem_map.1 hw
 exact zce _ 12
theorem ziz {B:List Nat}:∀ k,(bst B k).length≤12
 | 0=>by have:=z8o (z5a 4095) (by decide);exact this
 | k+1=>by
  show (bif zcg (z5Z k) (bst B k)&&zY B k then z5Z k else bst B k).length≤12
  cases zcg (z5Z k) (bst B k)&&zY B k with
  | true=>exact z8o (z5a k) (by decide)
  | false=>exact ziz k
theorem zmQ {h:Hp} {p:Int} (e:ppE h p=0):cfE h p=(bif zY (zZ h p) 4095 then 0 else 54)∧cfV h p=bif zY (zZ h p) 4095 then (bst (zZ h p) 4096).map Int.ofNat else []:=by
 have hc:cfF (z3j h p) 13=bif zY (zZ h p) 4095 then some (bst (zZ h p) 4096) else none:=ziu z8J
 unfold cfE cfV
 rw [if_pos e,if_pos e,hc]
 generalize bst (zZ h p) 4096=row
 cases zY (zZ h p) 4095 <;> exact ⟨rfl,rfl⟩
end Go.Proofs.YtdpipdniklognaaGreat
/- Plain: lists of holes that rise. CheckConflict. -/
set_option maxRecDepth 100000
namespace Go.Proofs.YtdpipdniklognaaGreat
variable {r:Rm}
structure OkC (l:List Int) (k:Nat):Prop where
 lo:0≤l.getD k 0
 hi:l.getD k 0≤11
 up:0<k→l.getD (k - 1) 0<l.getD k 0
def zJ (l:List Int):List Nat:=l.map Int.toNat
theorem z7m {l:List Int} {k:Nat}:zV (zJ l) k=(l.getD k 0).toNat:=by
 unfold zV zJ
 simp only [List.getD_eq_getElem?_getD,List.getElem?_map]
 cases l[k]? <;> rfl
theorem z4b {l:List Int}:(zJ l).length=l.length:=List.length_map _
theorem zeq {l:List Int} {n:Nat} (h:∀ k,k<n→OkC l k) {k:Nat} (hk:k<n):zV (zJ l) k<12:=by
 rw [z7m]
 have:=(h k hk).lo;have:=(h k hk).hi;omega
theorem zer {l:List Int} {k:Nat} (h:OkC l k):l.getD k 0=Int.ofNat (zV (zJ l) k):=by
 rw [z7m]
 have:=h.lo
 simp only [Int.ofNat_eq_natCast];omega
theorem zhm {l:List Int} (h:∀ k,k<l.length→OkC l k):Inc 0 (zJ l):=by
 have hlt:∀ d i,i+d+1<l.length→l.getD i 0<l.getD (i+d+1) 0:=fun d=>by
  induction d with
  | zero=>intro i hi;exact (h (i+1) hi).up (Nat.succ_pos _)
  | succ d ih =>
   intro i hi
   have h1:=ih i (by omega)
   have h2:=(h (i+(d+1)+1) hi).up (Nat.succ_pos _)
   rw [show i+(d+1)+1 - 1=i+d+1 by omega] at h2
   omega
 refine zhJ ?_ fun x hx=>?_
 ·rw [List.pairwise_iff_getElem]
  intro i j hi hj hij
  have e:∀ k (hk:k<(zJ l).length),(zJ l)[k]=zV (zJ l) k:=fun k hk=>(z0f hk).symm
  rw [z4b] at hi hj
  rw [e,e,z7m,z7m]
  have h1:=hlt (j - i - 1) i (by omega)
  rw [show i+(j - i - 1)+1=j by omega] at h1
  have:=(h i hi).lo
  have:=(h j hj).lo
  omega
 ·obtain ⟨k,hk,e⟩:=z2L (d:=0) hx
  rw [z4b] at hk
  have:=zeq h hk
  rw [show zV (zJ l) k=x from e] at this
  exact ⟨Nat.zero_le _,this⟩
theorem zjL {l:List Int} (h:∀ k,k<l.length→OkC l k):l=(zJ l).map Int.ofNat:=by
 refine List.ext_getElem (by rw [List.length_map,z4b]) fun k h1 h2=>?_
 rw [List.getElem_map,←z0f (d:=0) h1,zer (h k h1)]
 exact congrArg Int.ofNat (z0f (d:=0) (by rw [z4b];exact h1))
open Classical in
noncomputable def zeP (h:Hp) (p:Int) (l:List Int):Int :=
 if ppE h p=0 then
  (if ∀ k,k<l.length→OkC l k then
   (bif zY (zZ h p) (zS (zJ l)) then
    (if ∃ k,k<l.length∧zY (zZ h p) (zS (zJ l) ^^^ (zS (zJ l) &&& 1 <<< zV (zJ l) k))=true then 54 else 0) else 54) else 54) else ppE h p
theorem zmO {h:Hp} {p:Int} {l:List Int} (e:¬ ppE h p=0):zeP h p l=ppE h p:=if_neg e
theorem zis {h:Hp} {p:Int} {l:List Int} (e:ppE h p=0) (g:¬ ∀ k,k<l.length→OkC l k):zeP h p l=54:=by unfold zeP;rw [if_pos e,if_neg g]
theorem zdB {h:Hp} {p:Int} {l:List Int} (e:ppE h p=0) (g:zY (zZ h p) (zS (zJ l))=false):zeP h p l=54:=by
 unfold zeP
 rw [if_pos e,g]
 split <;> rfl
theorem zmN {h:Hp} {p:Int} {l:List Int} {k:Nat} (e:ppE h p=0) (hk:k<l.length) (g:zY (zZ h p) (zS (zJ l) ^^^ (zS (zJ l) &&& 1 <<< zV (zJ l) k))=true):zeP h p l=54:=by
 have hx:∃ k,k<l.length∧zY (zZ h p) (zS (zJ l) ^^^ (zS (zJ l) &&& 1 <<< zV (zJ l) k))=true:=⟨k,hk,g⟩
 unfold zeP
 rw [if_pos e]
 by_cases c:∀ k,k<l.length→OkC l k
 ·rw [if_pos c,if_pos hx]
  cases zY (zZ h p) (zS (zJ l)) <;> rfl
 ·rw [if_neg c]
theorem zlf {h:Hp} {p:Int} {l:List Int} (e:ppE h p=0) (g1:∀ k,k<l.length→OkC l k) (g2:zY (zZ h p) (zS (zJ l))=true) (g3:∀ k,k<l.length→zY (zZ h p) (zS (zJ l) ^^^ (zS (zJ l) &&& 1 <<< zV (zJ l) k))=false):zeP h p l=0:=by
 unfold zeP
 rw [if_pos e,if_pos g1,g2,cond_true,if_neg]
 rintro ⟨k,hk,h1⟩
 rw [g3 k hk] at h1;cases h1
end Go.Proofs.YtdpipdniklognaaGreat
/- Walks: CheckConflict of both sides. -/
set_option maxRecDepth 100000
namespace Go.Proofs.YtdpipdniklognaaGreat
variable {r:Rm}
theorem znp {l:List Int} {k:Nat} (h:OkC l k):wth (l.getD k 0) 0 11=true:=by
 unfold wth
 rw [Bool.and_eq_true,decide_eq_true_iff,decide_eq_true_iff];exact ⟨h.lo,h.hi⟩
theorem zkU {l:List Int} {k:Nat} (h:wth (l.getD k 0) 0 11=true) (hu:0<k→l.getD (k - 1) 0<l.getD k 0):OkC l k:=by
 unfold wth at h
 rw [Bool.and_eq_true,decide_eq_true_iff,decide_eq_true_iff] at h
 exact ⟨h.1,h.2,hu⟩
end Go.Proofs.YtdpipdniklognaaGreat
/- Walks: the program's CheckConflict. -/
set_option maxRecDepth 100000
namespace Go.Proofs.YtdpipdniklognaaGreat
variable {r:Rm}
set_option maxHeartbeats 8000000 in
theorem z3R {h:Hp} {p:Int} {b:Bool} {l:List Int} (hz:SzH h) (hl:l.length<9223372036854775808):VP (sE r) 29 [.agg ((eHp h).map .p),iv p,.p (z2F b l)] (iv (zeP h p l)):=by
 have hc:=z4x (r:=r) (p:=p) hz
 rcases z5z h p with ⟨hO,e⟩ | e
 rotate_left
 ·rw [zmO (zcV e)]
  refine VP.of (fn:=Tryz.f29) za (zC rfl) (by kernel_rfl) rfl rfl rfl ?_
  refine VSt.go za false [] 200 rfl AllP.n ?_
  refine zf (z00 0 (eHp h) rfl rfl) ?_
  refine VSt.go za false [] 200 rfl AllP.n ?_
  refine VSt.pc rfl rfl rfl rfl rfl rfl rfl rfl (hc) ?_
  refine VSt.go za false [] 200 rfl AllP.n ?_
  refine VSt.cond rfl (fun _=>?_) (fun q=>absurd (q.symm.trans e) (by decide))
  refine VSt.go za false [] 200 rfl AllP.n ?_
  exact EndsP.mk rfl rfl rfl rfl
 have e2:=e
 rw [e] at hc
 refine VP.of (fn:=Tryz.f29) za (zC rfl) (by kernel_rfl) rfl rfl rfl ?_
 refine VSt.go za false [] 200 rfl AllP.n ?_
 refine zf (z00 0 (eHp h) rfl rfl) ?_
 refine VSt.go za false [] 200 rfl AllP.n ?_
 refine VSt.pc rfl rfl rfl rfl rfl rfl rfl rfl (hc) ?_
 refine VSt.go za false [] 200 rfl AllP.n ?_
 refine VSt.cond rfl (fun q=>absurd q (by decide)) (fun _=>?_)
 refine VSt.go za false [] 200 rfl AllP.n ?_
 refine z0r za l.length (by omega) [1,2,3,20] (fun _=>[]) (fun _=>[]) (fun k=>∀ q,q<k→OkC l q) rfl rfl rfl (fun _=>rfl) rfl rfl z1k trivial none0 (fun k g hp=>?_) (fun hp=>?_)
 ·refine VSt.go za false [] 200 rfl (AllP.c ‹_› (AllP.c rfl AllP.n)) ?_
  refine VSt.pc rfl rfl rfl rfl rfl rfl rfl rfl ((zhF _)) ?_
  refine VSt.go za false [] 200 rfl AllP.n ?_
  refine zg 30 rfl (fun a3=>?_) (fun a3=>?_)
  ·have a3:(!wth (l.getD k 0) 0 11)=true:=a3
   refine VSt.go za false [] 200 rfl AllP.n ?_
   refine EndsP.mk rfl rfl rfl ?_
   rw [zis e2 fun n=>by rw [znp (n k g)] at a3;cases a3];rfl
  have a3:(!wth (l.getD k 0) 0 11)=false:=a3
  rw [Bool.not_eq_false'] at a3
  refine VSt.go za false [] 200 rfl AllP.n ?_
  refine zg 33 rfl (fun a4=>?_) (fun a4=>?_)
  ·have h0:=n0 a4
   refine VSt.go za false [37] 200 rfl (AllP.c (by unfold inR;(try simp only [Int.ofNat_eq_natCast]);omega) AllP.n) ?_
   refine z06 36 (nv (k - 1)) rfl (zcU h0) ?_
   refine VSt.go za false [] 200 rfl (AllP.c (by omega) (AllP.c rfl AllP.n)) ?_
   refine VSt.cond rfl (fun a5=>?_) (fun a5=>?_)
   ·have a5:l.getD k 0≤l.getD (k - 1) 0:=of_decide_eq_true a5
    refine VSt.go za false [] 200 rfl AllP.n ?_
    refine EndsP.mk rfl rfl rfl ?_
    rw [zis e2 fun n=>by have:=(n k g).up h0;omega];rfl
   have hu:0<k→l.getD (k - 1) 0<l.getD k 0:=fun _=>by have a5:¬ l.getD k 0≤l.getD (k - 1) 0:=of_decide_eq_false a5;omega
   refine VSt.go za false [] 200 rfl AllP.n ?_
   exact ⟨by (refine Vw.drop (by repeat (first | exact zu | refine zq rfl rfl rfl ?_ | refine z0o rfl ‹_› (z07 _ ‹_›) ?_))),z0H hp (zkU a3 hu)⟩
  ·have hu:0<k→l.getD (k - 1) 0<l.getD k 0:=fun h=>absurd (n0' a4) (by omega)
   refine VSt.go za false [] 200 rfl AllP.n ?_
   exact ⟨by (refine Vw.drop (by repeat (first | exact zu | refine zq rfl rfl rfl ?_ | refine z0o rfl ‹_› (z07 _ ‹_›) ?_))),z0H hp (zkU a3 hu)⟩
 have hin:=zhm hp
 have hS:zS (zJ l)<4096:=z7L _ fun x hx=>(z3N hin x hx).2
 have hS2:zS (zJ l)<9223372036854775808:=Nat.lt_trans hS (by decide)
 have hnl:=z8o hin (by decide)
 have hset:=zgK (r:=r) (b:=b) (l:=zJ l) (by omega) fun x hx=>(z3N hin x hx).2
 unfold zij at hset
 rw [←zjL hp] at hset
 have hM:∀ w∈zZ h p,w<9223372036854775808:=fun w hw=>Nat.lt_trans (z8J w hw) (by decide)
 refine VSt.go za false [] 200 rfl AllP.n ?_
 refine VSt.cc [] rfl rfl rfl rfl rfl rfl rfl rfl rfl rfl rfl (zcf (h:=h) (p:=p) hz hO) ?_
 rintro a L' ⟨rfl,rfl⟩
 refine VSt.go za false [] 200 rfl AllP.n ?_
 refine VSt.pc rfl rfl rfl rfl rfl rfl rfl rfl (hset) ?_
 refine VSt.go za false [] 200 rfl AllP.n ?_
 refine ziQ rfl rfl (PureR.call rfl rfl rfl (fun S Z j vs hS hv=>z7q hS hv rfl hS2 hM)) ?_
 refine VSt.go za false [] 200 rfl AllP.n ?_
 refine VSt.cond rfl (fun q=>?_) (fun q=>?_)
 ·have q:(!zY (zZ h p) (zS (zJ l)))=true:=q
  rw [Bool.not_eq_true'] at q
  refine VSt.go za false [] 200 rfl AllP.n ?_
  refine EndsP.mk rfl rfl rfl ?_
  rw [zdB e2 q];rfl
 have q:(!zY (zZ h p) (zS (zJ l)))=false:=q
 rw [Bool.not_eq_false'] at q
 refine VSt.go za false [] 200 rfl AllP.n ?_
 refine z0r za l.length (by omega) [10,11,53] (fun _=>[]) (fun _=>[(0,.mapA none (zcv (zZ h p)) [])]) (fun k=>∀ q,q<k→zY (zZ h p) (zS (zJ l) ^^^ (zS (zJ l) &&& 1 <<< zV (zJ l) q))=false) rfl rfl rfl (fun _=>rfl) rfl rfl z1k (LImp.refl _) none0 (fun k g hq=>?_) (fun hq=>?_)
 ·have h12:=zeq hp g
  have h64:zV (zJ l) k<64:=by omega
  have hsh:1 <<< zV (zJ l) k<9223372036854775808:=by
   rw [Nat.one_shiftLeft];exact Nat.lt_of_lt_of_le (Nat.pow_lt_pow_right (by decide) h12) (by decide)
  have hxl:zS (zJ l) ^^^ (zS (zJ l) &&& 1 <<< zV (zJ l) k)<9223372036854775808:=Nat.lt_trans (Nat.xor_lt_two_pow (n:=12) hS (Nat.lt_of_le_of_lt Nat.and_le_left hS)) (by decide)
  refine VSt.go za false [62] 200 rfl (AllP.c ‹_› (AllP.c rfl AllP.n)) ?_
  refine z06 61 (nv (zV (zJ l) k)) rfl (z2d (zer (hp k g))) ?_
  refine VSt.go za false [] 200 rfl (AllP.c ‹_› (AllP.c ‹_› (AllP.c ‹_› (AllP.c ‹_› AllP.n)))) ?_
  refine ziQ rfl rfl (PureR.call rfl rfl rfl (fun S Z j vs hS hv=>z7q hS hv rfl hxl hM)) ?_
  refine VSt.go za false [] 200 rfl AllP.n ?_
  refine VSt.cond rfl (fun h1=>?_) (fun h1=>?_)
  ·have h1:zY (zZ h p) (zS (zJ l) ^^^ (zS (zJ l) &&& 1 <<< zV (zJ l) k))=true:=h1
   refine VSt.go za false [] 200 rfl AllP.n ?_
   refine EndsP.mk rfl rfl rfl ?_
   rw [zmN e2 g h1];rfl
  ·have h1:zY (zZ h p) (zS (zJ l) ^^^ (zS (zJ l) &&& 1 <<< zV (zJ l) k))=false:=h1
   refine VSt.go za false [] 200 rfl AllP.n ?_
   refine ⟨?_,z0H hq h1⟩
   refine zN (ps:=[(0,0)]) ⟨rfl,rfl,(by repeat (first | exact zu | refine zq rfl rfl rfl ?_)),_,rfl,(⟨rfl,BImp.refl _,trivial⟩)⟩
 ·refine VSt.go za false [] 200 rfl AllP.n ?_
  refine EndsP.mk rfl rfl rfl ?_
  rw [zlf e2 hp q hq];rfl
end Go.Proofs.YtdpipdniklognaaGreat
/- Plain: the book that numbers describe. -/
set_option maxRecDepth 100000
namespace Go.Proofs.YtdpipdniklognaaGreat
structure Raw where
 sh:List (Int×Int×Int)
 shB:Bool
 wo:List (Int×Int)
 woB:Bool
 sw:List Int
 swB:Bool
 ids:List Int
 idB:Bool
def zX (x m:Int):Int:=(x.tmod m+m).tmod m
theorem z0N {x m:Int} (h:0<m):0≤zX x m∧zX x m<m:=by
 have h1:=Int.lt_tmod_of_pos x h
 have h2:=Int.tmod_lt_of_pos x h
 unfold zX
 exact ⟨Int.tmod_nonneg _ (by omega),Int.tmod_lt_of_pos _ h⟩
def z4d (x:Int) (k:Nat):Nat:=(BitVec.ofInt 64 x).toNat &&& k
theorem z88 (x:Int) (k:Nat):z4d x k≤k:=Nat.and_le_right
def z4Z (l:List Int) (i:Nat):Int:=if l.length=0 then 0 else l.getD (zX (Int.ofNat i) (Int.ofNat l.length)).toNat 0
def z5n (x:Int):Int:=1+zX x 30
def zat (o:List Int):Nat→Int→Int
 | 0,x=>x
 | f+1,x=>bif o.contains x then zat o f (z5n x) else x
def mdO (R:Raw):Nat→List Int
 | 0=>[]
 | k+1=>mdO R k++[zat (mdO R k) 30 (1+zX (z4Z R.ids k) 30)]
def nM (R:Raw):Nat:=min R.sh.length 6
def zK (R:Raw):List Int:=mdO R (nM R)
def shN (R:Raw) (i:Nat):Int×Int×Int:=R.sh.getD i (0,0,0)
def woN (R:Raw) (w:Nat):Int×Int:=R.wo.getD w (0,0)
def zj1 (R:Raw) (i w:Nat):Bool:=decide (zX (woN R w).1 7≤Int.ofNat i)&&decide (Int.ofNat i≤zX (woN R w).1 7+zX (woN R w).2 4)
def z9K (R:Raw) (i:Nat):Nat→Nat
 | 0=>0
 | w+1=>bif zj1 R i w then z9K R i w ||| 1 <<< w else z9K R i w
theorem z9J (R:Raw) (i:Nat):∀ w,z9K R i w<2 ^ w
 | 0=>Nat.one_pos
 | w+1=>by
  have ih:=z9J R i w
  have h1:z9K R i w<2 ^ (w+1):=Nat.lt_trans ih (Nat.pow_lt_pow_right (by decide) (Nat.lt_succ_self w))
  show (bif zj1 R i w then z9K R i w ||| 1 <<< w else z9K R i w)<_
  cases zj1 R i w with
  | true=>exact Nat.or_lt_two_pow h1 (by rw [Nat.one_shiftLeft];exact Nat.pow_lt_pow_right (by decide) (Nat.lt_succ_self w))
  | false=>exact h1
def nW (R:Raw):Nat:=min R.wo.length 12
def zq9 (R:Raw) (i:Nat):Int:=bif z4d (shN R i).2.1 1==0 then 1+zX (shN R i).1 5 else 0
def zqc (R:Raw) (i:Nat):Int:=bif z4d (shN R i).2.1 2==0 then (if i+1<nM R then 1+zX (shN R (i+1)).1 5 else 0) else 0
def znd (R:Raw) (i:Nat):Nat:=z4d (shN R i).2.2 4095
def znk (R:Raw) (i:Nat):Nat:=z9K R i (nW R) ^^^ (z9K R i (nW R) &&& znd R i)
def z8P (R:Raw) (i:Nat):Sht:=⟨(zK R).getD i 0,3,zq9 R i,zqc R i,Int.ofNat (znk R i),Int.ofNat (znd R i)⟩
def y8 (R:Raw) (id:Nat):Int:=z8q (zK R) fun x=>x==Int.ofNat id
def zU (R:Raw):Nat→List Sht
 | 0=>[]
 | j+1=>bif decide (y8 R (j+1)<0) then zU R j else zU R j++[z8P R (y8 R (j+1)).toNat]
def ze7 (R:Raw) (id:Nat):Bool:=decide ((y8 R id).toNat+1<nM R)&&R.sw.contains (y8 R id)
def zT (R:Raw):Nat→List Sew
 | 0=>[]
 | j+1=>bif decide (y8 R (j+1)<0) then zT R j else bif ze7 R (j+1) then zT R j++[⟨Int.ofNat (j+1),(zK R).getD ((y8 R (j+1)).toNat+1) 0⟩] else zT R j
def mdH (R:Raw):Hp:=⟨zU R 30,(zU R 30).isEmpty,zT R 30,(zT R 30).isEmpty⟩
theorem zae {α : Type} [BEq α] [LawfulBEq α]:∀ {l m:List α},l.Nodup→(∀ x,x∈l→x∈m)→l.length≤m.length
 | [],_,_,_=>Nat.zero_le _
 | a::l,m,h,hs=>by
  rw [List.nodup_cons] at h
  have ha:=hs a List.mem_cons_self
  have:=zae (m:=m.erase a) h.2 fun x hx=>by
   have hne:x≠a:=fun e=>h.1 (by rw [←e];exact hx)
   exact (List.mem_erase_of_ne hne).2 (hs x (List.mem_cons_of_mem _ hx))
  rw [List.length_erase_of_mem ha] at this
  have:0<m.length:=List.length_pos_of_mem ha
  rw [List.length_cons];omega
theorem zbU {o:List Int}:∀ f x,zat o f x ∉ o∨∀ i,i<f→Nat.repeat z5n i x∈o
 | 0,x=>.inr fun i hi=>absurd hi (Nat.not_lt_zero i)
 | f+1,x=>by
  show (bif o.contains x then zat o f (z5n x) else x) ∉ o∨_
  cases hc:o.contains x with
  | false =>
   left
   show x ∉ o
   intro h
   rw [List.contains_iff_mem.2 h] at hc;cases hc
  | true =>
   rcases zbU (o:=o) f (z5n x) with h | h
   ·exact .inl h
   ·refine .inr fun i hi=>?_
    cases i with
    | zero=>exact List.contains_iff_mem.1 hc
    | succ i =>
     have:=h i (by omega)
     have e:∀ i,Nat.repeat z5n i (z5n x)=Nat.repeat z5n (i+1) x:=fun i=>by
      induction i with
      | zero=>rfl
      | succ i ih=>show z5n (Nat.repeat z5n i (z5n x))=z5n (Nat.repeat z5n (i+1) x);rw [ih]
     rw [←e];exact this
theorem zkV {x:Int} (h1:1≤x) (h2:x≤30):z5n x=if x=30 then 1 else x+1:=by
 unfold z5n zX
 obtain ⟨n,rfl⟩:∃ n:Nat,x=Int.ofNat n:=⟨x.toNat,by simp only [Int.ofNat_eq_natCast];omega⟩
 simp only [Int.ofNat_eq_natCast] at *
 have e1:((n:Int).tmod 30)=(n:Int) % 30:=Int.tmod_eq_emod_of_nonneg (by omega)
 rw [e1,Int.tmod_eq_emod_of_nonneg (by omega)]
 split <;> omega
theorem zgW {x:Int} (h1:1≤x) (h2:x≤30):∀ i,i<30→Nat.repeat z5n i x=if x+i≤30 then x+i else x+i - 30
 | 0,_=>by rw [if_pos (by omega)];show x=_;omega
 | i+1,hi=>by
  have ih:=zgW h1 h2 i (by omega)
  show z5n (Nat.repeat z5n i x)=_
  rw [ih]
  split
  ·rw [zkV (by omega) (by omega)]
   split <;> split <;> omega
  ·rw [zkV (by omega) (by omega)]
   split <;> split <;> omega
theorem zi5 {o:List Int} {x:Int} (ho:o.length<30) (h1:1≤x) (h2:x≤30):zat o 30 x ∉ o:=by
 rcases zbU (o:=o) 30 x with h | h
 ·exact h
 ·exfalso
  have hn:((List.range 30).map fun i=>Nat.repeat z5n i x).Nodup:=by
   rw [List.nodup_iff_pairwise_ne,List.pairwise_map]
   refine (List.pairwise_lt_range (n:=30)).imp_of_mem fun {a b} ha hb hab=>?_
   have ha:=List.mem_range.1 ha
   have hb:=List.mem_range.1 hb
   rw [zgW h1 h2 a ha,zgW h1 h2 b hb]
   split <;> split <;> omega
  have:=zae hn fun y hy=>by
   obtain ⟨i,hi,rfl⟩:=List.mem_map.1 hy
   exact h i (List.mem_range.1 hi)
  rw [List.length_map,List.length_range] at this
  omega
theorem zi4 {o:List Int}:∀ f {x:Int},1≤x→x≤30→1≤zat o f x∧zat o f x≤30
 | 0,x,h1,h2=>⟨h1,h2⟩
 | f+1,x,h1,h2=>by
  show 1≤(bif o.contains x then zat o f (z5n x) else x)∧(bif o.contains x then zat o f (z5n x) else x)≤30
  cases o.contains x with
  | false=>exact ⟨h1,h2⟩
  | true =>
   have:=z0N (x:=x) (m:=30) (by decide)
   exact zi4 (o:=o) f (x:=z5n x) (by unfold z5n;omega) (by unfold z5n;omega)
theorem zaf (R:Raw):∀ k,(mdO R k).length=k
 | 0=>rfl
 | k+1=>by show (mdO R k++[_]).length=_;rw [List.length_append,zaf R k];rfl
theorem zhs (R:Raw):∀ k,∀ x∈mdO R k,1≤x∧x≤30
 | 0,x,h=>by cases h
 | k+1,x,h=>by
  rcases List.mem_append.1 (show x∈mdO R k++[_] from h) with h | h
  ·exact zhs R k x h
  ·rw [List.mem_singleton.1 h]
   have:=z0N (x:=z4Z R.ids k) (m:=30) (by decide)
   exact zi4 30 (by omega) (by omega)
theorem zbC (R:Raw):∀ k,k<30→(mdO R k).Nodup
 | 0,_=>List.nodup_nil
 | k+1,hk=>by
  show (mdO R k++[_]).Nodup
  rw [List.nodup_append]
  refine ⟨zbC R k (by omega),List.nodup_cons.2 ⟨List.not_mem_nil,List.nodup_nil⟩,fun a ha b hb=>?_⟩
  have:=z0N (x:=z4Z R.ids k) (m:=30) (by decide)
  rw [List.mem_singleton.1 hb]
  intro e
  exact zi5 (o:=mdO R k) (x:=1+zX (z4Z R.ids k) 30) (by rw [zaf];omega) (by omega) (by omega) (e ▸ ha)
theorem zme (R:Raw):nM R≤6:=Nat.min_le_right _ _
theorem z2K (R:Raw):(zK R).length=nM R:=zaf R _
theorem zh9 (R:Raw):(zK R).Nodup:=zbC R _ (by have:=zme R;omega)
theorem zh8 (R:Raw) {x:Int} (h:x∈zK R):1≤x∧x≤30:=zhs R _ x h
theorem z3Y (R:Raw) (id:Nat):(y8 R id = -1∧Int.ofNat id ∉ zK R)∨∃ k,y8 R id=Int.ofNat k∧k<nM R∧(zK R).getD k 0=Int.ofNat id:=by
 unfold y8
 rcases z6u (zK R) (fun x=>x==Int.ofNat id) with h | ⟨k,h⟩
 ·refine .inl ⟨h,fun hm=>?_⟩
  have h2:=zam h
  rw [←h2] at hm
  have:=(List.mem_filter.1 hm).2
  rw [beq_self_eq_true] at this;cases this
 ·obtain ⟨h1,h2,_⟩:=z6t h
  rw [z2K] at h1
  exact .inr ⟨k,h,h1,eq_of_beq h2⟩
theorem z9V {R:Raw}:∀ j {s:Sht},s∈zU R j→∃ i k,0<i∧i≤j∧y8 R i=Int.ofNat k∧k<nM R∧(zK R).getD k 0=Int.ofNat i∧s=z8P R k
 | 0,s,h=>by cases h
 | j+1,s,h=>by
  have h:s∈(bif decide (y8 R (j+1)<0) then zU R j else zU R j++[z8P R (y8 R (j+1)).toNat]):=h
  have hb:s∈zU R j→∃ i k,0<i∧i≤j+1∧y8 R i=Int.ofNat k∧k<nM R∧(zK R).getD k 0=Int.ofNat i∧s=z8P R k:=fun h=>by
   obtain ⟨i,k,h0,h1,h2⟩:=z9V j h
   exact ⟨i,k,h0,by omega,h2⟩
  rcases z3Y R (j+1) with ⟨e,_⟩ | ⟨k,e,hk,h3⟩
  ·rw [e] at h
   exact hb h
  ·rw [e,decide_eq_false (by simp only [Int.ofNat_eq_natCast];omega),cond_false] at h
   rcases List.mem_append.1 h with h | h
   ·exact hb h
   ·exact ⟨j+1,k,by omega,by omega,e,hk,h3,List.mem_singleton.1 h⟩
theorem z9a (R:Raw) (k:Nat):(z8P R k).id=(zK R).getD k 0:=rfl
theorem ze1 {R:Raw} {j:Nat}:zU R (j+1)=zU R j∨∃ s,zU R (j+1)=zU R j++[s]∧s.id=Int.ofNat (j+1):=by
 show (bif decide (y8 R (j+1)<0) then zU R j else zU R j++[z8P R (y8 R (j+1)).toNat])=_∨_
 rcases z3Y R (j+1) with ⟨e,_⟩ | ⟨k,e,hk,h3⟩
 ·rw [e];exact .inl rfl
 ·refine .inr ⟨z8P R k,?_,h3⟩
  show (bif decide (y8 R (j+1)<0) then zU R j else zU R j++[z8P R (y8 R (j+1)).toNat])=_
  rw [e,decide_eq_false (by simp only [Int.ofNat_eq_natCast];omega)];rfl
theorem znA {R:Raw} (j:Nat) {s:Sht} (h:s∈zU R j):1≤s.id∧s.id≤Int.ofNat j:=by
 obtain ⟨i,k,h0,h1,_,_,h3,rfl⟩:=z9V j h
 rw [z9a,h3]
 simp only [Int.ofNat_eq_natCast];omega
theorem zgZ {α : Type} {p : α → α → Prop} {l:List α} {x : α} (h:l.Pairwise p) (hx:∀ y∈l,p y x):(l++[x]).Pairwise p:=by
 rw [List.pairwise_append]
 refine ⟨h,List.pairwise_singleton _ _,fun a ha b hb=>?_⟩
 rw [List.mem_singleton.1 hb];exact hx a ha
theorem ze2 {R:Raw}:∀ j,(zU R j).Pairwise fun a b=>a.id<b.id
 | 0=>List.Pairwise.nil
 | j+1=>by
  rcases ze1 (R:=R) (j:=j) with h | ⟨s,h,hs⟩
  ·rw [h];exact ze2 j
  ·rw [h]
   refine zgZ (ze2 j) fun y hy=>?_
   have:=(znA j hy).2
   rw [hs]
   simp only [Int.ofNat_eq_natCast] at *;omega
theorem zlE {R:Raw} {j i:Nat} (h0:0<i) (hj:i≤j) (h:Int.ofNat i∈zK R):∃ k,y8 R i=Int.ofNat k∧k<nM R∧(zK R).getD k 0=Int.ofNat i∧z8P R k∈zU R j:=by
 rcases z3Y R i with ⟨_,e⟩ | ⟨k,e,hk,h3⟩
 ·exact absurd h e
 ·refine ⟨k,e,hk,h3,?_⟩
  induction j with
  | zero=>omega
  | succ j ih =>
   by_cases c:i=j+1
   ·subst c
    show _∈(bif decide (y8 R (j+1)<0) then zU R j else zU R j++[z8P R (y8 R (j+1)).toNat])
    rw [e,decide_eq_false (by simp only [Int.ofNat_eq_natCast];omega),cond_false]
    exact List.mem_append.2 (.inr (List.mem_singleton.2 rfl))
   ·have:=ih (by omega)
    rcases ze1 (R:=R) (j:=j) with g | ⟨s,g,_⟩
    ·rw [g];exact this
    ·rw [g];exact List.mem_append.2 (.inl this)
theorem z9Y {R:Raw}:∀ j {x:Sew},x∈zT R j→∃ i k,0<i∧i≤j∧y8 R i=Int.ofNat k∧k+1<nM R∧(zK R).getD k 0=Int.ofNat i∧x.fro=Int.ofNat i∧x.too=(zK R).getD (k+1) 0
 | 0,x,h=>by cases h
 | j+1,x,h=>by
  have h:x∈(bif decide (y8 R (j+1)<0) then zT R j else bif ze7 R (j+1) then zT R j++[⟨Int.ofNat (j+1),(zK R).getD ((y8 R (j+1)).toNat+1) 0⟩] else zT R j):=h
  have hb:x∈zT R j→∃ i k,0<i∧i≤j+1∧y8 R i=Int.ofNat k∧k+1<nM R∧(zK R).getD k 0=Int.ofNat i∧x.fro=Int.ofNat i∧x.too=(zK R).getD (k+1) 0:=fun h=>by
   obtain ⟨i,k,h0,h1,h2⟩:=z9Y j h
   exact ⟨i,k,h0,by omega,h2⟩
  rcases z3Y R (j+1) with ⟨e,_⟩ | ⟨k,e,hk,h3⟩
  ·rw [e] at h
   exact hb h
  ·rw [e,decide_eq_false (by simp only [Int.ofNat_eq_natCast];omega),cond_false] at h
   cases hs:ze7 R (j+1) with
   | false=>rw [hs] at h;exact hb h
   | true =>
    rw [hs,cond_true] at h
    rcases List.mem_append.1 h with h | h
    ·exact hb h
    ·have h:=List.mem_singleton.1 h
     unfold ze7 at hs
     rw [e,Bool.and_eq_true,decide_eq_true_iff] at hs
     exact ⟨j+1,k,by omega,by omega,e,hs.1,h3,by rw [h],by rw [h];rfl⟩
theorem zjl {R:Raw} {j:Nat}:zT R (j+1)=zT R j∨∃ x,zT R (j+1)=zT R j++[x]∧x.fro=Int.ofNat (j+1):=by
 show (bif decide (y8 R (j+1)<0) then zT R j else bif ze7 R (j+1) then zT R j++[⟨Int.ofNat (j+1),(zK R).getD ((y8 R (j+1)).toNat+1) 0⟩] else zT R j)=_∨∃ x,(bif decide (y8 R (j+1)<0) then zT R j else bif ze7 R (j+1) then zT R j++[⟨Int.ofNat (j+1),(zK R).getD ((y8 R (j+1)).toNat+1) 0⟩] else zT R j)=_∧_
 cases decide (y8 R (j+1)<0) with
 | true=>exact .inl rfl
 | false =>
  cases ze7 R (j+1) with
  | false=>exact .inl rfl
  | true=>exact .inr ⟨_,rfl,rfl⟩
theorem zcZ {R:Raw} {a b:Nat} (ha:a<nM R) (hb:b<nM R) (e:(zK R).getD a 0=(zK R).getD b 0):a=b:=by
 rw [←z2K] at ha hb
 rw [z0f ha,z0f hb] at e
 exact (List.getElem_inj (zh9 R)).1 e
theorem ze6 {R:Raw}:∀ j,(zT R j).Pairwise fun a b=>a.fro<b.fro∧a.too≠b.too
 | 0=>List.Pairwise.nil
 | j+1=>by
  rcases zjl (R:=R) (j:=j) with h | ⟨x,h,hx⟩
  ·rw [h];exact ze6 j
  ·have hxm:x∈zT R (j+1):=by rw [h];exact List.mem_append.2 (.inr (List.mem_singleton.2 rfl))
   rw [h]
   refine zgZ (ze6 j) fun y hy=>?_
   obtain ⟨i,k,h0,h1,h2,h3,h4,h5,h6⟩:=z9Y j hy
   obtain ⟨i',k',g0,g1,g2,g3,g4,g5,g6⟩:=z9Y (j+1) hxm
   have hi:i'=j+1:=by rw [hx] at g5;exact (Int.ofNat.inj g5).symm
   refine ⟨by rw [h5,hx];simp only [Int.ofNat_eq_natCast];omega,fun e=>?_⟩
   rw [h6,g6] at e
   have:=zcZ (by omega) (by omega) e
   have hk:k=k':=by omega
   rw [hk] at h4
   rw [h4] at g4
   have:=Int.ofNat.inj g4
   omega
theorem z9Z {R:Raw}:∀ j,(zT R j).length≤(zU R j).length
 | 0=>Nat.le_refl _
 | j+1=>by
  have ih:=z9Z (R:=R) j
  show (bif decide (y8 R (j+1)<0) then zT R j else bif ze7 R (j+1) then zT R j++[⟨Int.ofNat (j+1),(zK R).getD ((y8 R (j+1)).toNat+1) 0⟩] else zT R j).length≤(bif decide (y8 R (j+1)<0) then zU R j else zU R j++[z8P R (y8 R (j+1)).toNat]).length
  cases decide (y8 R (j+1)<0) with
  | true=>exact ih
  | false =>
   rw [cond_false,cond_false,List.length_append]
   cases ze7 R (j+1) with
   | false=>exact Nat.le_trans ih (Nat.le_add_right _ _)
   | true=>rw [cond_true,List.length_append];exact Nat.add_le_add_right ih 1
theorem ze3 (R:Raw) (j:Nat):(zU R j).length≤6:=by
 have h1:((zU R j).map (·.id)).Nodup:=by
  rw [List.nodup_iff_pairwise_ne,List.pairwise_map]
  exact (ze2 j).imp fun h=>Int.ne_of_lt h
 have h2:=zae (m:=zK R) h1 fun y hy=>by
  obtain ⟨s,hs,rfl⟩:=List.mem_map.1 hy
  obtain ⟨i,k,_,_,_,hk,_,rfl⟩:=z9V j hs
  rw [z9a]
  exact z0E (by rw [z2K];exact hk)
 rw [List.length_map,z2K] at h2
 have:=zme R
 omega
theorem zms (R:Raw) (i:Nat):znk R i<4096:=by
 have h1:z9K R i (nW R)<4096:=Nat.lt_of_lt_of_le (z9J R i _) (Nat.pow_le_pow_right (n:=2) (by decide) (show nW R≤12 from Nat.min_le_right _ _))
 exact Nat.xor_lt_two_pow (n:=12) h1 (Nat.lt_of_le_of_lt Nat.and_le_left h1)
theorem z6Z (m u:Nat):(m ^^^ (m &&& u)) &&& u=0:=by
 refine Nat.eq_of_testBit_eq fun i=>?_
 rw [Nat.testBit_and,Nat.testBit_xor,Nat.testBit_and,Nat.zero_testBit]
 cases m.testBit i <;> cases u.testBit i <;> rfl
theorem z8Z {n lo hi:Int} (h1:lo≤n) (h2:n≤hi):wth n lo hi=true:=by
 unfold wth
 rw [Bool.and_eq_true,decide_eq_true_iff,decide_eq_true_iff];exact ⟨h1,h2⟩
theorem zdN {b:Bool} {x:Int} (h:0≤x∧x≤5):wth (bif b then x else 0) 0 999=true:=by
 cases b with
 | true=>exact z8Z h.1 (Int.le_trans h.2 (by decide))
 | false=>exact z8Z (Int.le_refl 0) (show (0:Int)≤999 by decide)
theorem znF {R:Raw} {k:Nat} (hk:k<nM R):OkS (z8P R k):=by
 have h1:=zh8 R (z0E (d:=0) (show k<(zK R).length by rw [z2K];exact hk))
 have h2:=z0N (x:=(shN R k).1) (m:=5) (by decide)
 have h3:=z0N (x:=(shN R (k+1)).1) (m:=5) (by decide)
 have h4:=zms R k
 have h5:znd R k≤4095:=z88 _ _
 refine ⟨z8Z h1.1 (by show (zK R).getD k 0≤99;omega),(show wth 3 1 999=true by decide),zdN (by omega),zdN ?_,?_,?_,?_⟩
 ·split <;> omega
 ·exact z8Z (by show 0≤Int.ofNat _;simp only [Int.ofNat_eq_natCast];omega) (by show Int.ofNat (znk R k)≤4095;simp only [Int.ofNat_eq_natCast];omega)
 ·exact z8Z (by show 0≤Int.ofNat _;simp only [Int.ofNat_eq_natCast];omega) (by show Int.ofNat (znd R k)≤4095;simp only [Int.ofNat_eq_natCast];omega)
 ·show (!(Int.ofNat (znk R k &&& znd R k)==0))=false
  unfold znk
  rw [z6Z];rfl
theorem zkX {R:Raw} {k:Nat} (hk:k<nM R):∃ a,a<(zU R 30).length∧zo (zU R 30) a=z8P R k:=by
 have h1:=zh8 R (z0E (d:=0) (show k<(zK R).length by rw [z2K];exact hk))
 obtain ⟨i,hi⟩:∃ i:Nat,(zK R).getD k 0=Int.ofNat i:=⟨((zK R).getD k 0).toNat,by simp only [Int.ofNat_eq_natCast];omega⟩
 have hm:Int.ofNat i∈zK R:=by rw [←hi];exact z0E (by rw [z2K];exact hk)
 rw [hi] at h1
 simp only [Int.ofNat_eq_natCast] at h1
 obtain ⟨k',_,hk',e,h⟩:=zlE (j:=30) (by omega) (by omega) hm
 have:k'=k:=zcZ hk' hk (by rw [e,hi])
 subst this
 obtain ⟨a,ha,e⟩:=z2L (d:=default) h
 exact ⟨a,ha,e⟩
theorem zef {α : Type} {p : α → α → Prop} {l:List α} {d : α} (h:l.Pairwise p) {i j:Nat} (hij:i<j) (hj:j<l.length):p (l.getD i d) (l.getD j d):=by
 rw [z0f (show i<l.length by omega),z0f hj]
 exact List.pairwise_iff_getElem.1 h i j (by omega) hj hij
theorem zpd (R:Raw):OkH (mdH R):=by
 have hl:=ze3 R 30
 have hw:=z9Z (R:=R) 30
 refine ⟨by show (zU R 30).length≤24;omega,by show (zT R 30).length≤12;omega,fun i hi=>?_,fun i h0 hi=>?_,fun i hi=>?_,fun i hi=>?_,fun i h0 hi=>?_,fun i hi k hk=>?_⟩
 ·have hm:zo (zU R 30) i∈zU R 30:=z0E hi
  obtain ⟨_,k,_,_,_,hk,_,e⟩:=z9V 30 hm
  show OkS (zo (zU R 30) i)
  rw [e];exact znF hk
 ·exact zef (ze2 (R:=R) 30) (show i - 1<i by omega) hi
 ·exact Nat.le_trans (List.length_filter_le _ _) (by show (zU R 30).length≤7;omega)
 ·have hm:zP (zT R 30) i∈zT R 30:=z0E hi
  obtain ⟨i',k,h0,h1,_,h3,h4,h5,h6⟩:=z9Y 30 hm
  obtain ⟨a,ha,ea⟩:=zkX (R:=R) (k:=k) (by omega)
  obtain ⟨b,hb,eb⟩:=zkX (R:=R) (k:=k+1) h3
  refine ⟨a,b,ha,hb,?_,?_,fun e=>?_,?_⟩
  ·show (zo (zU R 30) a).id=(zP (zT R 30) i).fro
   rw [ea,h5,z9a,h4]
  ·show (zo (zU R 30) b).id=(zP (zT R 30) i).too
   rw [eb,h6,z9a]
  ·rw [e] at ea
   rw [ea] at eb
   have:=congrArg Sht.id eb
   rw [z9a,z9a] at this
   have:=zcZ (by omega) (by omega) this
   omega
  ·show (zo (zU R 30) a).paper=(zo (zU R 30) b).paper
   rw [ea,eb];rfl
 ·exact (zef (ze6 (R:=R) 30) (show i - 1<i by omega) hi).1
 ·exact (zef (ze6 (R:=R) 30) hk hi).2
end Go.Proofs.YtdpipdniklognaaGreat
/- Plain: other holes in a book; an order or holes. -/
set_option maxRecDepth 100000
namespace Go.Proofs.YtdpipdniklognaaGreat
def zlD (l:List Sht) (t:Int×Int):Nat:=(zX t.1 (Int.ofNat l.length)).toNat
def zoV (s:Sht) (n:Int):Sht:={ s with holes:=Int.ofNat (z4d n 4095 ^^^ (z4d n 4095 &&& s.unsure.toNat)) }
def zlC (l:List Sht) (t:Int×Int):List Sht:=l.set (zlD l t) (zoV (zo l (zlD l t)) t.2)
def zcu (ts:List (Int×Int)) (i:Nat):Int×Int:=ts.getD i (0,0)
def z7I (l:List Sht) (ts:List (Int×Int)):Nat→List Sht
 | 0=>l
 | i+1=>zlC (z7I l ts i) (zcu ts i)
def zdX (h:Hp) (ts:List (Int×Int)):Hp:=⟨z7I h.st ts (min ts.length 4),false,h.sw,false⟩
theorem zjf (l:List Sht) (t:Int×Int):(zlC l t).length=l.length:=List.length_set
theorem z4t (l:List Sht) (ts:List (Int×Int)):∀ i,(z7I l ts i).length=l.length
 | 0=>rfl
 | i+1=>by show (zlC (z7I l ts i) (zcu ts i)).length=_;rw [zjf,z4t l ts i]
theorem zgL (l:List Sht) (k:Nat) (s:Sht) (i:Nat) (hi:i<l.length):zo (l.set k s) i=if i=k then s else zo l i:=by
 unfold zo
 rw [z0f (show i<(l.set k s).length by rw [List.length_set];exact hi),List.getElem_set,z0f hi]
 by_cases e:i=k
 ·rw [if_pos e,if_pos e.symm]
 ·rw [if_neg e,if_neg (Ne.symm e)]
structure Alk (a b:Sht):Prop where
 id:b.id=a.id
 paper:b.paper=a.paper
 ok:OkS a→OkS b
theorem Alk.refl (a:Sht):Alk a a:=⟨rfl,rfl,fun o=>o⟩
theorem Alk.trans {a b c:Sht} (h:Alk a b) (k:Alk b c):Alk a c:=⟨k.id.trans h.id,k.paper.trans h.paper,fun o=>k.ok (h.ok o)⟩
theorem zje (s:Sht) (n:Int):Alk s (zoV s n):=by
 refine ⟨rfl,rfl,fun o=>⟨o.id,o.paper,o.first,o.catch_,?_,o.unsure,?_⟩⟩
 ·have h1:z4d n 4095<4096:=Nat.lt_succ_of_le (z88 n 4095)
  have h2:z4d n 4095 ^^^ (z4d n 4095 &&& s.unsure.toNat)<4096:=Nat.xor_lt_two_pow (n:=12) h1 (Nat.lt_of_le_of_lt Nat.and_le_left h1)
  refine z8Z ?_ ?_
  ·show 0≤Int.ofNat (z4d n 4095 ^^^ (z4d n 4095 &&& s.unsure.toNat));simp only [Int.ofNat_eq_natCast];omega
  ·show Int.ofNat (z4d n 4095 ^^^ (z4d n 4095 &&& s.unsure.toNat))≤4095;simp only [Int.ofNat_eq_natCast];omega
 ·show (!(Int.ofNat ((z4d n 4095 ^^^ (z4d n 4095 &&& s.unsure.toNat)) &&& s.unsure.toNat)==0))=false
  rw [z6Z];rfl
theorem z9U (l:List Sht) (ts:List (Int×Int)):∀ i k,k<l.length→Alk (zo l k) (zo (z7I l ts i) k)
 | 0,k,_=>Alk.refl _
 | i+1,k,hk=>by
  refine Alk.trans (z9U l ts i k hk) ?_
  show Alk _ (zo (zlC (z7I l ts i) (zcu ts i)) k)
  unfold zlC
  rw [zgL _ _ _ _ (by rw [z4t];exact hk)]
  split
  ·rename_i e
   rw [←e];exact zje _ _
  ·exact Alk.refl _
theorem zoA {h:Hp} {l:List Sht} {b b':Bool} (n:OkH h) (hl:l.length=h.st.length) (ha:∀ k,k<h.st.length→Alk (zo h.st k) (zo l k)):OkH ⟨l,b,h.sw,b'⟩:=by
 refine ⟨by show l.length≤24;rw [hl];exact n.st,n.sw,fun i hi=>?_,fun i h0 hi=>?_,fun i hi=>?_,fun i hi=>?_,n.froms,n.toos⟩
 ·have hi:i<h.st.length:=by rw [←hl];exact hi
  exact (ha i hi).ok (n.ok i hi)
 ·have hi:i<h.st.length:=by rw [←hl];exact hi
  show (zo l (i - 1)).id<(zo l i).id
  rw [(ha i hi).id,(ha (i - 1) (by omega)).id]
  exact n.rise i h0 hi
 ·have hi:i<h.st.length:=by rw [←hl];exact hi
  show cnt l (zo l i).paper≤7
  rw [(ha i hi).paper]
  refine Nat.le_trans (Nat.le_of_eq ?_) (n.few i hi)
  have e:l.map (·.paper)=h.st.map (·.paper):=by
   refine List.ext_getElem (by rw [List.length_map,List.length_map,hl]) fun k h1 h2=>?_
   rw [List.length_map] at h1 h2
   rw [List.getElem_map,List.getElem_map]
   have:=(ha k h2).paper
   unfold zo at this
   rw [z0f h1,z0f h2] at this;exact this
  have key:∀ m:List Sht,∀ p:Int,cnt m p=((m.map (·.paper)).filter fun x=>x==p).length:=fun m p=>by
   unfold cnt
   rw [List.filter_map,List.length_map];rfl
  rw [key,key,e]
 ·obtain ⟨a,c,h1,h2,h3,h4,h5,h6⟩:=n.sewn i hi
  refine ⟨a,c,by show a<l.length;omega,by show c<l.length;omega,?_,?_,h5,?_⟩
  ·show (zo l a).id=_;rw [(ha a h1).id];exact h3
  ·show (zo l c).id=_;rw [(ha c h2).id];exact h4
  ·show (zo l a).paper=(zo l c).paper;rw [(ha a h1).paper,(ha c h2).paper];exact h6
theorem znx {h:Hp} (n:OkH h) (ts:List (Int×Int)):OkH (zdX h ts):=zoA n (z4t _ _ _) fun k hk=>z9U _ _ _ k hk
theorem ord_brk {h:Hp} {p:Int}:0<(z2T h p).length ↔ 0∈zZ h p:=by
 rw [List.length_pos_iff_exists_mem]
 unfold zZ z2T
 constructor
 ·rintro ⟨x,hx⟩
  obtain ⟨h1,h2⟩:=List.mem_filter.1 hx
  unfold zdq at h2
  rw [Bool.and_eq_true] at h2
  exact List.mem_map.2 ⟨x,List.mem_filter.2 ⟨h1,h2.1⟩,eq_of_beq h2.2⟩
 ·intro h0
  obtain ⟨x,hx,e⟩:=List.mem_map.1 h0
  obtain ⟨h1,h2⟩:=List.mem_filter.1 hx
  exact ⟨x,List.mem_filter.2 ⟨h1,by unfold zdq;rw [h2,e];rfl⟩⟩
theorem zeF {B:List Nat} (h:0∈B) (a:Nat):zY B a=false:=by
 rw [←Bool.not_eq_true]
 intro g
 unfold zY at g
 rw [List.all_eq_true] at g
 have:=g 0 h
 rw [Nat.and_zero] at this;cases this
theorem zk3 {B:List Nat} (hB:∀ w∈B,w<4096) (h:0 ∉ B):zY B 4095=true:=by
 unfold zY
 rw [List.all_eq_true]
 intro w hw
 rw [show (4095:Nat)=2 ^ 12 - 1 from rfl,Nat.and_comm,Nat.and_two_pow_sub_one_eq_mod,Nat.mod_eq_of_lt (hB w hw)]
 cases w with
 | zero=>exact absurd hw h
 | succ w=>rfl
theorem zdI (s k j:Nat):(s ^^^ (s &&& 1 <<< k)).testBit j=(s.testBit j && !(j==k)):=by
 rw [Nat.testBit_xor,Nat.testBit_and,Nat.one_shiftLeft,Nat.testBit_two_pow]
 by_cases e:k=j
 ·subst e
  rw [decide_eq_true rfl,beq_self_eq_true]
  cases s.testBit k <;> rfl
 ·rw [decide_eq_false e,show (j==k)=false by rw [←Bool.not_eq_true,beq_iff_eq];exact Ne.symm e]
  cases s.testBit j <;> rfl
theorem zjS {l:List Nat} {k:Nat} (h:Inc 0 l) (hk:k<l.length):(z5Z (zS l ^^^ (zS l &&& 1 <<< zV l k))).length<l.length:=by
 have h1:(z5Z (zS l ^^^ (zS l &&& 1 <<< zV l k)))=(z5Z (zS l)).filter fun j=>!(j==zV l k):=by
  unfold z5Z
  rw [List.filter_filter]
  congr 1
  funext j
  rw [zdI,Bool.and_comm]
 rw [h1,zho h]
 have hm:zV l k∈l:=z0E hk
 refine Nat.lt_of_le_of_ne (List.length_filter_le _ _) fun e=>?_
 have:=(List.length_filter_eq_length_iff.1 e) _ hm
 rw [beq_self_eq_true] at this;cases this
theorem zno {s k:Nat} (h:s<4096):s ^^^ (s &&& 1 <<< k)<4096:=Nat.xor_lt_two_pow (n:=12) h (Nat.lt_of_le_of_lt Nat.and_le_left h)
theorem zbA (l:List Nat):zJ (l.map Int.ofNat)=l:=by
 unfold zJ
 rw [List.map_map]
 exact List.map_id' l
theorem zmp {l:List Nat} (h:Inc 0 l):∀ k,k<(l.map Int.ofNat).length→OkC (l.map Int.ofNat) k:=fun k hk=>by
 rw [List.length_map] at hk
 have h1:=(z3N h _ (z0E (d:=0) hk)).2
 have e:∀ i,(l.map Int.ofNat).getD i 0=Int.ofNat (zV l i):=fun i=>zd9
 have h1:zV l k<12:=h1
 refine ⟨by rw [e];simp only [Int.ofNat_eq_natCast];omega,by rw [e];simp only [Int.ofNat_eq_natCast];omega,fun h0=>?_⟩
 have hpw:∀ {k} {l:List Nat},Inc k l→l.Pairwise (· < ·):=fun {k} {l} h=>by
  induction l generalizing k with
  | nil=>exact List.Pairwise.nil
  | cons a l ih=>exact List.Pairwise.cons (fun x hx=>(z3N h.2.2 x hx).1) (ih h.2.2)
 have:=zef (d:=0) (hpw h) (show k - 1<k by omega) hk
 have:zV l (k - 1)<zV l k:=this
 rw [e,e]
 simp only [Int.ofNat_eq_natCast];omega
theorem zfG {h:Hp} {p:Int} (e:ppE h p=0) (h0:0∈zZ h p):zm0 h p=0∧cfE h p=54∧(∀ l,zeP h p l=54)∧zok h p (zhb h p)=0:=by
 have hl:=ord_brk.2 h0
 have hc:cfF (z3j h p) 13=none:=by
  have:=ziu (B:=zZ h p) z8J
  rw [zeF h0] at this;exact this
 refine ⟨by unfold zm0;rw [if_pos e,if_pos hl],by unfold cfE;rw [if_pos e,hc],fun l=>zdB e (zeF h0 _),?_⟩
 have hi:zhy h p (zhb h p)=true:=by
  unfold zhy
  rw [List.any_eq_true]
  refine ⟨(z2T h p)[0],List.getElem_mem hl,?_⟩
  rw [show zhb h p=zhq h p 0 from if_pos e,zd7 (List.getElem?_eq_getElem hl),beq_self_eq_true]
 unfold zok
 rw [if_pos e,hi];rfl
theorem zih {h:Hp} {p:Int} (e:ppE h p=0) (h0:0 ∉ zZ h p):zm0 h p=55∧cfE h p=0∧zeP h p (cfV h p)=0∧∀ l,zeP h p l=0→(cfV h p).length≤l.length:=by
 have hl:¬ 0<(z2T h p).length:=fun g=>h0 (ord_brk.1 g)
 obtain ⟨row,hc⟩:∃ row,cfF (z3j h p) 13=some row:=by
  have hc:=ziu (B:=zZ h p) z8J
  generalize bst (zZ h p) 4096=row at hc
  rw [zk3 z8J h0] at hc
  exact ⟨row,hc⟩
 obtain ⟨h1,h2,h3,h4⟩:=zdC 13 hc
 have hv:cfV h p=row.map Int.ofNat:=by unfold cfV;rw [if_pos e,hc]
 have h3:zY (zZ h p) (zS row)=true:=h3
 refine ⟨by unfold zm0;rw [if_pos e,if_neg hl],by unfold cfE;rw [if_pos e,hc],?_,fun l hl0=>?_⟩
 ·rw [hv]
  refine zlf e (zmp h1) (by rw [zbA];exact h3) fun k hk=>?_
  rw [List.length_map] at hk
  rw [zbA,←Bool.not_eq_true]
  intro g
  have g1:=zno (k:=zV row k) (z7L row fun k hk=>(z3N h1 k hk).2)
  have:=h4 _ (z5a (zS row ^^^ (zS row &&& 1 <<< zV row k))) (by show zY (zZ h p) (zS (z5Z _))=true;rw [zcP g1];exact g)
  have g2:=zjS h1 hk
  rw [bet_iff.2 (.inl g2)] at this;cases this
 ·rw [hv,List.length_map]
  refine Nat.le_of_not_lt fun g=>?_
  by_cases c:∀ k,k<l.length→OkC l k
  ·cases hh:zY (zZ h p) (zS (zJ l)) with
   | false=>rw [zdB e hh] at hl0;cases hl0
   | true =>
    have:=h4 (zJ l) (zhm c) hh
    rw [bet_iff.2 (.inl (by rw [z4b];exact g))] at this;cases this
  ·rw [zis e c] at hl0;cases hl0
end Go.Proofs.YtdpipdniklognaaGreat
/- The law LeafConflicts. -/
set_option maxRecDepth 100000
namespace Go.Proofs.YtdpipdniklognaaGreat
variable {r:Rm}
theorem zmP {h:Hp} {p:Int}:(cfV h p).length<9223372036854775808:=by
 by_cases e:ppE h p=0
 ·rw [(zmQ e).2]
  have:=ziz (B:=zZ h p) 4096
  generalize bst (zZ h p) 4096=row at *
  cases zY (zZ h p) 4095 with
  | true=>rw [cond_true,List.length_map];omega
  | false=>show ([]:List Int).length<_;decide
 ·rw [show cfV h p=[] from if_neg e];decide
end Go.Proofs.YtdpipdniklognaaGreat
/- Walks of the reference: Mod, pick; the book that numbers describe, its order. -/
set_option maxRecDepth 100000
namespace Go.Proofs.YtdpipdniklognaaGreat
variable {r:Rm}
theorem z6O {x m:Int} (h0:0<m) (h1:m<4611686018427387904):VP (sE r) 36 [iv x,iv m] (iv (zX x m)):=by
 have hm:m≠0:=by omega
 have h2:=Int.lt_tmod_of_pos x h0
 have h3:=Int.tmod_lt_of_pos x h0
 have h4:inR (x.tmod m+m):=by unfold inR;omega
 refine VP.of (fn:=Tryz.f36) za (zC rfl) (by kernel_rfl) rfl rfl rfl ?_
 refine VSt.go za false [] 200 rfl (AllP.c ‹_› (AllP.c ‹_› (AllP.c ‹_› AllP.n))) ?_
 exact EndsP.mk rfl rfl rfl rfl
theorem zlW {b:Bool} {l:List Int} {i:Nat} (hl:l.length<4611686018427387904):VP (sE r) 96 [.p (z2F b l),nv i] (iv (z4Z l i)):=by
 refine VP.of (fn:=Tryz.f96) za (zC rfl) (by kernel_rfl) rfl rfl rfl ?_
 refine VSt.go za false [] 200 rfl AllP.n ?_
 refine VSt.cond rfl (fun h=>?_) (fun h=>?_)
 ·have h:(Int.ofNat l.length==0)=true:=h
  have h:=eq_of_beq h
  refine VSt.go za false [] 200 rfl AllP.n ?_
  refine EndsP.mk rfl rfl rfl ?_
  rw [show z4Z l i=0 from if_pos (by simp only [Int.ofNat_eq_natCast] at h;omega)];rfl
 ·have h:(Int.ofNat l.length==0)=false:=h
  have h0:l.length≠0:=fun g=>by rw [g] at h;cases h
  have hr:=z0N (x:=Int.ofNat i) (m:=Int.ofNat l.length) (by simp only [Int.ofNat_eq_natCast];omega)
  have hk:(zX (Int.ofNat i) (Int.ofNat l.length)).toNat<l.length:=by simp only [Int.ofNat_eq_natCast] at hr ⊢;omega
  refine VSt.go za false [] 200 rfl AllP.n ?_
  refine VSt.pc rfl rfl rfl rfl rfl rfl rfl rfl ((z6O (x:=Int.ofNat i) (m:=Int.ofNat l.length) (by simp only [Int.ofNat_eq_natCast];omega) (by simp only [Int.ofNat_eq_natCast];omega))) ?_
  refine VSt.go za false [13] 200 rfl AllP.n ?_
  refine z06 12 (nv (zX (Int.ofNat i) (Int.ofNat l.length)).toNat) rfl (z2d (Int.toNat_of_nonneg hr.1).symm) ?_
  refine VSt.go za false [] 200 rfl (AllP.c ‹_› (AllP.c rfl AllP.n)) ?_
  refine EndsP.mk rfl rfl rfl ?_
  rw [show z4Z l i=l.getD (zX (Int.ofNat i) (Int.ofNat l.length)).toNat 0 from if_neg h0];rfl
def e3 (x:Int×Int×Int):List PV:=[.int .i64 x.1,.int .i64 x.2.1,.int .i64 x.2.2]
def e2 (x:Int×Int):List PV:=[.int .i64 x.1,.int .i64 x.2]
def zkb (R:Raw):List PV:=[.lst 66 R.shB R.sh.length (fun k=>e3 (shN R k)),.lst 52 R.woB R.wo.length (fun k=>e2 (woN R k)),z2F R.swB R.sw,z2F R.idB R.ids]
structure SzR (R:Raw):Prop where
 sh:R.sh.length<9223372036854775808
 wo:R.wo.length<9223372036854775808
 sw:R.sw.length<9223372036854775808
 ids:R.ids.length<4611686018427387904
def zb5 (R:Raw) (k:Nat):List Sht:=(List.range k).map (z8P R)
theorem ze5 (R:Raw) (k:Nat):(zb5 R k).length=k:=by unfold zb5;rw [List.length_map,List.length_range]
theorem zgJ (R:Raw) (k:Nat):zb5 R (k+1)=zb5 R k++[z8P R k]:=by unfold zb5;rw [List.range_succ,List.map_append];rfl
def bkF (R:Raw) (k:Nat):VK:=[(1,.p (.fp (zkb R) 0)),(2,.ref 1 0),(3,.p (.lst 0 true 0 fun _=>[])),(4,nv (nM R)),(5,.p (z2F (zK R).isEmpty (zK R))),(8,.acc true 0 6 (zb5 R k).length),(9,nv k),(10,.ref 2 0),(11,.ref 3 0)]
def bkL (R:Raw) (k:Nat) (a c:Int) (m u:Nat):VS:=[(3,.cells [iv ((zK R).getD k 0),iv 3,iv a,iv c,iv (Int.ofNat m),iv (Int.ofNat u)] 74),(2,.cells [iv (shN R k).1,iv (shN R k).2.1,iv (shN R k).2.2] 66),(0,.acc (zb5 R k).length 6 (fS (zb5 R k)) 74),(1,.cells [.p (.lst 0 true 0 fun _=>[]),.p (.lst 0 true 0 fun _=>[])] 25)]
def hpF (R:Raw) (j:Nat):VK:=[(1,.p (.fp (zkb R) 0)),(2,.ref 1 0),(4,nv (nM R)),(5,.p (z2F (zK R).isEmpty (zK R))),(8,.p (.lst 74 (true&&(zb5 R (nM R)).length.beq 0) (zb5 R (nM R)).length (fS (zb5 R (nM R))))),(14,.ref 2 0),(15,nv (j+1))]
def hpL (R:Raw) (j:Nat):VS:=[(1,.cells [.p (.lst 0 true 0 fun _=>[]),.p (.lst 0 true 0 fun _=>[])] 25),(2,.cells [.acc true 3 6 (zU R j).length,.acc true 4 2 (zT R j).length] 25),(3,.acc (zU R j).length 6 (fS (zU R j)) 74),(4,.acc (zT R j).length 2 (fW (zT R j)) 58)]
def hpM (R:Raw) (i j:Nat):VS:=[(1,.cells [.p (.lst 0 true 0 fun _=>[]),.p (.lst 0 true 0 fun _=>[])] 25),(2,.cells [.acc true 3 6 (zU R i).length,.acc true 4 2 (zT R j).length] 25),(3,.acc (zU R i).length 6 (fS (zU R i)) 74),(4,.acc (zT R j).length 2 (fW (zT R j)) 58)]
theorem zkx {x:Int} {k:Nat} (hk:k<9223372036854775808):zg3 x (Int.ofNat k)=Int.ofNat (z4d x k):=by
 have h1:(BitVec.ofInt 64 x &&& BitVec.ofInt 64 (Int.ofNat k)).toNat=z4d x k:=by
  rw [z11,BitVec.toNat_and,z1u (by omega)];rfl
 have h2:=z88 x k
 show IntKind.i64.wrap (Int.ofNat (BitVec.ofInt 64 x &&& BitVec.ofInt 64 (Int.ofNat k)).toNat)=_
 rw [z4I _ (by rw [h1];omega),h1]
theorem zkr {E:Env} {t:TypeId} {x:Int} {k:Nat} (hk:k<9223372036854775808):y7 E .and t (.int .i64 x) (.int .i64 (Int.ofNat k))=some (.int .i64 (Int.ofNat (z4d x k))):=by
 rw [←zkx hk];rfl
set_option maxHeartbeats 8000000 in
theorem zn9 {R:Raw} (hR:SzR R):VP (sE r) 31 [.agg ((zkb R).map .p)] (.tup [.agg [.p (z0G (zU R 30).isEmpty (zU R 30)),.p (z3J (zT R 30).isEmpty (zT R 30))],.p (z2F (zK R).isEmpty (zK R))]):=by
 have hs:=hR.sh
 have hw:=hR.wo
 have hsw:=hR.sw
 have hid:=hR.ids
 have hn6:=zme R
 refine VP.of (fn:=Tryz.f31) za (zC rfl) (by kernel_rfl) rfl rfl rfl ?_
 refine VSt.go za false [17] 200 rfl AllP.n ?_
 refine zf (z00 0 (zkb R) rfl rfl) ?_
 refine VSt.go za false [] 200 rfl AllP.n ?_
 refine VSt.putC 4 (nv (nM R)) rfl (z2d (by unfold nM;simp only [Int.ofNat_eq_natCast];omega)) ?_
 refine zl (z3L 2 1 (fL []) 3 rfl) ?_
 refine z2a (ti:=6) (nM R) [1,2,3,4] (fun k=>[(5,.acc true 2 1 (mdO R k).length)]) (fun k=>[(2,.acc (mdO R k).length 1 (fL (mdO R k)) 3),(1,.cells [.p (.lst 0 true 0 fun _=>[]),.p (.lst 0 true 0 fun _=>[])] 25)]) (fun _=>True) rfl rfl (z2R rfl z1h z1k) (LImp.refl _) trivial (fun k hk _=>?_)
 have hol:=zaf R k
 refine VSt.go za false [] 200 rfl AllP.n ?_
 refine VSt.cond rfl (fun g=>?_) (fun g=>?_)
 ·have g:=nlt g
  have hmr:=z0N (x:=z4Z R.ids k) (m:=30) (by decide)
  have hin1:inR (1+zX (z4Z R.ids k) 30):=by unfold inR;omega
  have hnx:∀ x,1≤x→x≤30→inR (1+zX x 30)∧1≤z5n x∧z5n x≤30:=fun x _ _=>by
   have:=z0N (x:=x) (m:=30) (by decide)
   unfold inR z5n;omega
  have hnew:=zi5 (o:=mdO R k) (x:=1+zX (z4Z R.ids k) 30) (by omega) (by omega) (by omega)
  refine VSt.go za false [] 200 rfl AllP.n ?_
  refine VSt.pc rfl rfl rfl rfl rfl rfl rfl rfl ((zlW (b:=R.idB) (l:=R.ids) (i:=k) hid)) ?_
  refine VSt.go za false [] 200 rfl AllP.n ?_
  refine VSt.pc rfl rfl rfl rfl rfl rfl rfl rfl ((z6O (x:=z4Z R.ids k) (m:=30) (by decide) (by decide))) ?_
  refine VSt.go za false [] 200 rfl (AllP.c ‹_› AllP.n) ?_
  refine VSt.loop (α :=Nat×Int) (fun x F L=>1≤x.2∧x.2≤30∧zat (mdO R k) x.1 x.2=zat (mdO R k) 30 (1+zX (z4Z R.ids k) 30)∧F=[(1,.p (.fp (zkb R) 0)),(2,.ref 1 0),(3,.p (.lst 0 true 0 fun _=>[])),(4,nv (nM R)),(5,.acc true 2 1 (mdO R k).length),(6,nv k),(7,iv x.2)]∧L=[(2,.acc (mdO R k).length 1 (fL (mdO R k)) 3),(1,.cells [.p (.lst 0 true 0 fun _=>[]),.p (.lst 0 true 0 fun _=>[])] 25)]) (fun x=>x.1) (30,1+zX (z4Z R.ids k) 30) (Vw.kp [1,2,3,4,5,6,7] [(2,2),(1,1)] rfl) ⟨by show 1≤1+zX _ _;omega,by show 1+zX _ _≤30;omega,rfl,rfl,rfl⟩ ?_
  rintro ⟨f,x⟩ F L ⟨h1,h2,h3,rfl,rfl⟩
  have h1:1≤x:=h1
  have h2:x≤30:=h2
  have h3:zat (mdO R k) f x=zat (mdO R k) 30 (1+zX (z4Z R.ids k) 30):=h3
  have hn:=hnx x h1 h2
  have hn1:=hn.1
  refine VSt.go za false [] 200 rfl AllP.n ?_
  refine z4q (F0:=[(32,.p (.lst 3 (Nat.beq (mdO R k).length 0) (mdO R k).length (fL (mdO R k)))),(33,iv x)]) (zky (i:=2) rfl (fun q hq=>by
    rcases List.mem_cons.1 hq with rfl | hq
    ·exact ⟨_,rfl,.inr ⟨rfl,rfl⟩⟩
    rcases List.mem_cons.1 hq with rfl | hq
    ·exact ⟨_,rfl,.inl ⟨rfl,rfl⟩⟩
    cases hq)) rfl rfl rfl rfl rfl rfl rfl (zgY (b:=Nat.beq (mdO R k).length 0) (l:=mdO R k) (n:=x) (by omega)) rfl ?_
  refine VSt.go za false [] 200 rfl AllP.n ?_
  refine VSt.cond rfl (fun q=>?_) (fun q=>?_)
  ·have q:(mdO R k).contains x=true:=q
   cases f with
   | zero =>
    have h3:x=_:=h3
    rw [←h3] at hnew
    exact absurd (List.contains_iff_mem.1 q) hnew
   | succ f =>
    have h4:zat (mdO R k) (f+1) x=zat (mdO R k) f (z5n x):=by
     show (bif (mdO R k).contains x then zat (mdO R k) f (z5n x) else x)=_
     rw [q];rfl
    refine VSt.go za false [] 200 rfl AllP.n ?_
    refine VSt.pc rfl rfl rfl rfl rfl rfl rfl rfl ((z6O (x:=x) (m:=30) (by decide) (by decide))) ?_
    refine VSt.go za false [] 200 rfl (AllP.c ‹_› AllP.n) ?_
    exact ⟨(f,z5n x),_,_,(Vw.kp [1,2,3,4,5,6,7] [(2,2),(1,1)] rfl),⟨hn.2.1,hn.2.2,h4.symm.trans h3,rfl,rfl⟩,Nat.lt_succ_self f⟩
  ·have q:(mdO R k).contains x=false:=q
   have h4:zat (mdO R k) f x=x:=by
    cases f with
    | zero=>rfl
    | succ f =>
     show (bif (mdO R k).contains x then zat (mdO R k) f (z5n x) else x)=_
     rw [q];rfl
   have e:mdO R (k+1)=mdO R k++[x]:=by
    show mdO R k++[zat (mdO R k) 30 (1+zX (z4Z R.ids k) 30)]=_
    rw [←h3,h4]
   have hN:=congrArg List.length e
   rw [List.length_append,List.length_singleton] at hN
   refine VSt.go za false [] 200 rfl (AllP.c (by omega) (AllP.c (by omega) (AllP.c (fun q hq=>match q,hq with | 0,_=>rfl) (AllP.c rfl (AllP.c rfl (AllP.c rfl (AllP.c (by unfold inR;(try simp only [Int.ofNat_eq_natCast]);omega) AllP.n))))))) ?_
   refine ⟨g,?_,trivial⟩
   exact zN (ps:=[(2,3),(1,1)]) ⟨rfl,rfl,(by repeat (first | exact zu | refine zq rfl rfl rfl ?_ | refine z1B rfl rfl z5Y ?_ | refine z1B rfl rfl (AImp.acc hN.symm (fun _=>rfl)) ?_)),_,rfl,⟨rfl,BImp.acc hN.symm (fun q hq=>by rw [e];exact zdG _ _ q hq),rfl,BImp.refl _,trivial⟩⟩
 have g:k=nM R:=by have:=nge g;omega
 subst g
 have hol:(zK R).length=nM R:=z2K R
 refine VSt.go za false [8] 200 rfl AllP.n ?_
 refine zf (z1s 2 rfl rfl (by (repeat (first | exact AllP.n | refine AllP.c (by first | assumption | rfl | omega | exact Nat.le_refl _ | (show 0<_;omega) | (show 1<_;omega) | (show 2<_;omega) | (show 3<_;omega) | (intro _ _;rfl) | (intro q hq;match q,hq with | 0,_=>rfl) | (unfold inR;(try simp only [Int.ofNat_eq_natCast]);omega)) ?_)))) ?_
 refine z06 5 (.p (z2F (zK R).isEmpty (zK R))) rfl (z04 (zf2 rfl)) ?_
 refine VSt.go za false [] 200 rfl AllP.n ?_
 refine zl (z3L 0 6 (fS []) 74 rfl) ?_
 refine z2a (ti:=9) (nM R) [1,2,3,4,5] (fun k=>[(8,.acc true 0 6 (zb5 R k).length)]) (fun k=>[(0,.acc (zb5 R k).length 6 (fS (zb5 R k)) 74),(1,.cells [.p (.lst 0 true 0 fun _=>[]),.p (.lst 0 true 0 fun _=>[])] 25)]) (fun _=>True) rfl rfl (z2R rfl z1h z1k) (LImp.refl _) trivial (fun k hk _=>?_)
 have hsl:=ze5 R k
 refine VSt.go za false [] 200 rfl AllP.n ?_
 refine VSt.cond rfl (fun g=>?_) (fun g=>?_)
 ·have g:=nlt g
  have hks:k<R.sh.length:=Nat.lt_of_lt_of_le g (Nat.min_le_left _ _)
  have hko:k<(zK R).length:=by omega
  have hm0:=z0N (x:=(shN R k).1) (m:=5) (by decide)
  have hin0:inR (1+zX (shN R k).1 5):=by unfold inR;omega
  refine VSt.go za false [] 200 rfl (AllP.c ‹_› (AllP.c rfl (AllP.c ‹_› (AllP.c rfl (AllP.c (by show 0<_;omega) AllP.n))))) ?_
  refine z1P rfl rfl rfl rfl rfl rfl rfl rfl ((z6O (x:=(shN R k).1) (m:=5) (by decide) (by decide))) ?_
  refine VSt.go za false [] 200 rfl (AllP.c ‹_› (AllP.c (by unfold inR;(try simp only [Int.ofNat_eq_natCast]);omega) AllP.n)) ?_
  refine ways (O:=True) (T:=?T1) (Nat.lt_or_ge (k+1) (nM R)) ?tail1 ?ha1 ?hb1
  case ha1 =>
   intro hx tail
   have hk1:k+1<R.sh.length:=Nat.lt_of_lt_of_le hx (Nat.min_le_left _ _)
   have hm1:=z0N (x:=(shN R (k+1)).1) (m:=5) (by decide)
   have hin1:inR (1+zX (shN R (k+1)).1 5):=by unfold inR;omega
   refine VSt.cond rfl (fun q=>?_) (fun q=>absurd hx (by have:=nge (k:=k+1) q;omega))
   refine VSt.go za false [69] 200 rfl (AllP.c (by unfold inR;(try simp only [Int.ofNat_eq_natCast]);omega) AllP.n) ?_
   refine z06 68 (nv (k+1)) rfl (z2d rfl) ?_
   refine VSt.go za false [] 200 rfl (AllP.c ‹_› (AllP.c rfl (AllP.c (by show 0<_;omega) AllP.n))) ?_
   refine VSt.pc rfl rfl rfl rfl rfl rfl rfl rfl ((z6O (x:=(shN R (k+1)).1) (m:=5) (by decide) (by decide))) ?_
   refine VSt.go za false [75] 200 rfl (AllP.c ‹_› AllP.n) ?_
   refine zf (zN (ps:=[(3,3),(2,2),(0,0),(1,1)]) (F0:=bkF R k) (L0:=bkL R k (1+zX (shN R k).1 5) (if k+1<nM R then 1+zX (shN R (k+1)).1 5 else 0) 0 0) ⟨rfl,rfl,(by repeat (first | exact zu | refine zq rfl rfl rfl ?_)),_,rfl,⟨rfl,BImp.cells ⟨AImp.refl _,AImp.refl _,AImp.refl _,z04 (by rw [if_pos hx]),AImp.refl _,AImp.refl _,trivial⟩,rfl,BImp.refl _,rfl,BImp.refl _,rfl,BImp.refl _,trivial⟩⟩) ?_
   exact tail trivial
  case hb1 =>
   intro hx tail
   refine VSt.cond rfl (fun q=>absurd (nlt (k:=k+1) q) (by omega)) (fun q=>?_)
   refine VSt.go za false [75] 200 rfl AllP.n ?_
   refine zf (zN (ps:=[(3,3),(2,2),(0,0),(1,1)]) (F0:=bkF R k) (L0:=bkL R k (1+zX (shN R k).1 5) (if k+1<nM R then 1+zX (shN R (k+1)).1 5 else 0) 0 0) ⟨rfl,rfl,(by repeat (first | exact zu | refine zq rfl rfl rfl ?_)),_,rfl,⟨rfl,BImp.cells ⟨AImp.refl _,AImp.refl _,AImp.refl _,z04 (by rw [if_neg (by omega)]),AImp.refl _,AImp.refl _,trivial⟩,rfl,BImp.refl _,rfl,BImp.refl _,rfl,BImp.refl _,trivial⟩⟩) ?_
   exact tail trivial
  case tail1 =>
   rintro -
   generalize hc1:(if k+1<nM R then 1+zX (shN R (k+1)).1 5 else 0)=c1
   refine VSt.go za false [77] 200 rfl (AllP.c (by show 1<_;omega) AllP.n) ?_
   refine VSt.binA rfl rfl rfl rfl rfl (zkr (k:=1) (by decide)) ?_
   refine VSt.go za false [] 200 rfl AllP.n ?_
   refine ways (O:=True) (T:=?T2) (Bool.eq_false_or_eq_true (z4d (shN R k).2.1 1==0)) ?tail2 ?ha2 ?hb2
   case ha2 =>
    intro hx tail
    have q0:(!(Int.ofNat (z4d (shN R k).2.1 1)==0))=false:=by rw [z1I,hx];rfl
    refine VSt.cond rfl (fun q=>absurd (q0.symm.trans q) (by decide)) (fun q=>?_)
    refine VSt.go za false [80] 200 rfl AllP.n ?_
    refine zf (zN (ps:=[(3,3),(2,2),(0,0),(1,1)]) (F0:=bkF R k) (L0:=bkL R k (bif z4d (shN R k).2.1 1==0 then 1+zX (shN R k).1 5 else 0) (c1) 0 0) ⟨rfl,rfl,(by repeat (first | exact zu | refine zq rfl rfl rfl ?_)),_,rfl,⟨rfl,BImp.cells ⟨AImp.refl _,AImp.refl _,z04 (by rw [hx];rfl),AImp.refl _,AImp.refl _,AImp.refl _,trivial⟩,rfl,BImp.refl _,rfl,BImp.refl _,rfl,BImp.refl _,trivial⟩⟩) ?_
    exact tail trivial
   case hb2 =>
    intro hx tail
    have q0:(!(Int.ofNat (z4d (shN R k).2.1 1)==0))=true:=by rw [z1I,hx];rfl
    refine VSt.cond rfl (fun q=>?_) (fun q=>absurd (q0.symm.trans q) (by decide))
    refine VSt.go za false [80] 200 rfl AllP.n ?_
    refine zf (zN (ps:=[(3,3),(2,2),(0,0),(1,1)]) (F0:=bkF R k) (L0:=bkL R k (bif z4d (shN R k).2.1 1==0 then 1+zX (shN R k).1 5 else 0) (c1) 0 0) ⟨rfl,rfl,(by repeat (first | exact zu | refine zq rfl rfl rfl ?_)),_,rfl,⟨rfl,BImp.cells ⟨AImp.refl _,AImp.refl _,z04 (by rw [hx];rfl),AImp.refl _,AImp.refl _,AImp.refl _,trivial⟩,rfl,BImp.refl _,rfl,BImp.refl _,rfl,BImp.refl _,trivial⟩⟩) ?_
    exact tail trivial
   case tail2 =>
   rintro -
   generalize ha1:(bif z4d (shN R k).2.1 1==0 then 1+zX (shN R k).1 5 else 0)=a1
   refine VSt.go za false [82] 200 rfl (AllP.c (by show 1<_;omega) AllP.n) ?_
   refine VSt.binA rfl rfl rfl rfl rfl (zkr (k:=2) (by decide)) ?_
   refine VSt.go za false [] 200 rfl AllP.n ?_
   refine ways (O:=True) (T:=?T3) (Bool.eq_false_or_eq_true (z4d (shN R k).2.1 2==0)) ?tail3 ?ha3 ?hb3
   case ha3 =>
    intro hx tail
    have q0:(!(Int.ofNat (z4d (shN R k).2.1 2)==0))=false:=by rw [z1I,hx];rfl
    refine VSt.cond rfl (fun q=>absurd (q0.symm.trans q) (by decide)) (fun q=>?_)
    refine VSt.go za false [] 200 rfl AllP.n ?_
    refine zl (zN (ps:=[(3,3),(2,2),(0,0),(1,1)]) (F0:=(12,nv 0)::bkF R k) (L0:=bkL R k (a1) (bif z4d (shN R k).2.1 2==0 then c1 else 0) 0 0) ⟨rfl,rfl,(by repeat (first | exact zu | refine zq rfl rfl rfl ?_)),_,rfl,⟨rfl,BImp.cells ⟨AImp.refl _,AImp.refl _,AImp.refl _,z04 (by rw [hx];rfl),AImp.refl _,AImp.refl _,trivial⟩,rfl,BImp.refl _,rfl,BImp.refl _,rfl,BImp.refl _,trivial⟩⟩) ?_
    exact tail trivial
   case hb3 =>
    intro hx tail
    have q0:(!(Int.ofNat (z4d (shN R k).2.1 2)==0))=true:=by rw [z1I,hx];rfl
    refine VSt.cond rfl (fun q=>?_) (fun q=>absurd (q0.symm.trans q) (by decide))
    refine VSt.go za false [] 200 rfl AllP.n ?_
    refine zl (zN (ps:=[(3,3),(2,2),(0,0),(1,1)]) (F0:=(12,nv 0)::bkF R k) (L0:=bkL R k (a1) (bif z4d (shN R k).2.1 2==0 then c1 else 0) 0 0) ⟨rfl,rfl,(by repeat (first | exact zu | refine zq rfl rfl rfl ?_)),_,rfl,⟨rfl,BImp.cells ⟨AImp.refl _,AImp.refl _,AImp.refl _,z04 (by rw [hx];rfl),AImp.refl _,AImp.refl _,trivial⟩,rfl,BImp.refl _,rfl,BImp.refl _,rfl,BImp.refl _,trivial⟩⟩) ?_
    exact tail trivial
   case tail3 =>
   rintro -
   generalize hc2:(bif z4d (shN R k).2.1 2==0 then c1 else 0)=c2
   refine z2a (ti:=12) (nW R) [1,2,3,4,5,8,9,10,11] (fun _=>[]) (fun w=>bkL R k a1 c2 (z9K R k w) 0) (fun _=>True) rfl rfl z1k (LImp.refl _) trivial (fun w hw _=>?_)
   have hw12:nW R≤12:=Nat.min_le_right _ _
   have hwl:nW R≤R.wo.length:=Nat.min_le_left _ _
   have hwk:z9K R k w<9223372036854775808:=Nat.lt_of_lt_of_le (z9J R k w) (Nat.le_trans (Nat.pow_le_pow_right (by decide) (show w≤12 by omega)) (by decide))
   refine VSt.go za false [] 200 rfl AllP.n ?_
   refine ways (O:=True) (T:=?T4) (Nat.lt_or_ge w (nW R)) ?tail4 ?ha4 ?hb4
   case ha4 =>
    intro hx _
    have hx12:w<12:=by omega
    have hxl:w<R.wo.length:=by omega
    have hm7:=z0N (x:=(woN R w).1) (m:=7) (by decide)
    have hm4:=z0N (x:=(woN R w).2) (m:=4) (by decide)
    have hi4:inR (zX (woN R w).1 7+zX (woN R w).2 4):=by unfold inR;omega
    have hsh:1 <<< w<9223372036854775808:=by
     rw [Nat.one_shiftLeft];exact Nat.lt_of_lt_of_le (Nat.pow_lt_pow_right (by decide) hx12) (by decide)
    have eK:z9K R k (w+1)=bif zj1 R k w then z9K R k w ||| 1 <<< w else z9K R k w:=rfl
    refine zg 90 rfl (fun q=>?_) (fun q=>absurd hxl (by have:=nge q;omega))
    refine VSt.go za false [] 200 rfl AllP.n ?_
    refine VSt.cond rfl (fun q=>?_) (fun q=>absurd hx12 (by have:=nge (n:=12) q;omega))
    refine VSt.go za false [] 200 rfl (AllP.c ‹_› (AllP.c rfl (AllP.c (by show 0<_;omega) AllP.n))) ?_
    refine VSt.pc rfl rfl rfl rfl rfl rfl rfl rfl ((z6O (x:=(woN R w).1) (m:=7) (by decide) (by decide))) ?_
    refine VSt.go za false [] 200 rfl AllP.n ?_
    refine zg 106 rfl (fun b1=>?_) (fun b1=>?_)
    ·have b1:decide (zX (woN R w).1 7≤Int.ofNat k)=true:=b1
     refine VSt.go za false [] 200 rfl (AllP.c ‹_› (AllP.c rfl (AllP.c (Nat.le_refl _) AllP.n))) ?_
     refine VSt.pc rfl rfl rfl rfl rfl rfl rfl rfl ((z6O (x:=(woN R w).2) (m:=4) (by decide) (by decide))) ?_
     refine VSt.go za false [] 200 rfl (AllP.c ‹_› AllP.n) ?_
     refine VSt.cond rfl (fun b2=>?_) (fun b2=>?_)
     ·have b2:decide (Int.ofNat k≤zX (woN R w).1 7+zX (woN R w).2 4)=true:=b2
      rw [show zj1 R k w=true by unfold zj1;rw [b1,b2];rfl,cond_true] at eK
      refine VSt.go za false [] 200 rfl (AllP.c (by omega) (AllP.c ‹_› (AllP.c ‹_› (AllP.c ‹_› (AllP.c (by unfold inR;(try simp only [Int.ofNat_eq_natCast]);omega) AllP.n))))) ?_
      refine ⟨hx,?_,trivial⟩
      dsimp only
      rw [eK]
      refine zN (ps:=[(3,3),(2,2),(0,0),(1,1)]) ⟨rfl,rfl,(by repeat (first | exact zu | refine zq rfl rfl rfl ?_)),_,rfl,(⟨rfl,BImp.refl _,rfl,BImp.refl _,rfl,BImp.refl _,rfl,BImp.refl _,trivial⟩)⟩
     ·have b2:decide (Int.ofNat k≤zX (woN R w).1 7+zX (woN R w).2 4)=false:=b2
      rw [show zj1 R k w=false by unfold zj1;rw [b1,b2];rfl,cond_false] at eK
      refine VSt.go za false [] 200 rfl (AllP.c (by unfold inR;(try simp only [Int.ofNat_eq_natCast]);omega) AllP.n) ?_
      refine ⟨hx,?_,trivial⟩
      dsimp only
      rw [eK]
      refine zN (ps:=[(3,3),(2,2),(0,0),(1,1)]) ⟨rfl,rfl,(by repeat (first | exact zu | refine zq rfl rfl rfl ?_)),_,rfl,(⟨rfl,BImp.refl _,rfl,BImp.refl _,rfl,BImp.refl _,rfl,BImp.refl _,trivial⟩)⟩
    ·have b1:decide (zX (woN R w).1 7≤Int.ofNat k)=false:=b1
     rw [show zj1 R k w=false by unfold zj1;rw [b1];rfl,cond_false] at eK
     refine VSt.go za false [] 200 rfl (AllP.c (by unfold inR;(try simp only [Int.ofNat_eq_natCast]);omega) AllP.n) ?_
     refine ⟨hx,?_,trivial⟩
     dsimp only
     rw [eK]
     refine zN (ps:=[(3,3),(2,2),(0,0),(1,1)]) ⟨rfl,rfl,(by repeat (first | exact zu | refine zq rfl rfl rfl ?_)),_,rfl,(⟨rfl,BImp.refl _,rfl,BImp.refl _,rfl,BImp.refl _,rfl,BImp.refl _,trivial⟩)⟩
   case hb4 =>
    intro hx tail
    have hx2:w=nW R:=by omega
    refine zg 90 rfl (fun q=>?_) (fun q=>?_)
    ·have q:=nlt q
     refine VSt.go za false [] 200 rfl AllP.n ?_
     refine VSt.cond rfl (fun q2=>absurd (nlt (n:=12) q2) (by unfold nW at hx;omega)) (fun q2=>?_)
     refine VSt.go za false [125] 200 rfl AllP.n ?_
     refine zf (zN (ps:=[(3,3),(2,2),(0,0),(1,1)]) (F0:=bkF R k) (L0:=bkL R k a1 c2 (z9K R k (nW R)) 0) ⟨rfl,rfl,(by repeat (first | exact zu | refine zq rfl rfl rfl ?_)),_,rfl,⟨rfl,BImp.cells ⟨AImp.refl _,AImp.refl _,AImp.refl _,AImp.refl _,z04 (by rw [←hx2]),AImp.refl _,trivial⟩,rfl,BImp.refl _,rfl,BImp.refl _,rfl,BImp.refl _,trivial⟩⟩) ?_
     exact tail trivial
    ·refine VSt.go za false [125] 200 rfl AllP.n ?_
     refine zf (zN (ps:=[(3,3),(2,2),(0,0),(1,1)]) (F0:=bkF R k) (L0:=bkL R k a1 c2 (z9K R k (nW R)) 0) ⟨rfl,rfl,(by repeat (first | exact zu | refine zq rfl rfl rfl ?_)),_,rfl,⟨rfl,BImp.cells ⟨AImp.refl _,AImp.refl _,AImp.refl _,AImp.refl _,z04 (by rw [←hx2]),AImp.refl _,trivial⟩,rfl,BImp.refl _,rfl,BImp.refl _,rfl,BImp.refl _,trivial⟩⟩) ?_
     exact tail trivial
   case tail4 =>
   rintro -
   have hwk2:z9K R k (nW R)<9223372036854775808:=Nat.lt_of_lt_of_le (z9J R k _) (Nat.le_trans (Nat.pow_le_pow_right (by decide) hw12) (by decide))
   have hlo:z4d (shN R k).2.2 4095<9223372036854775808:=Nat.lt_of_le_of_lt (z88 _ _) (by decide)
   refine VSt.go za false [127] 200 rfl (AllP.c (Nat.le_refl _) AllP.n) ?_
   refine VSt.binA rfl rfl rfl rfl rfl (zkr (k:=4095) (by decide)) ?_
   refine VSt.go za false [] 200 rfl (AllP.c ‹_› (AllP.c ‹_› (AllP.c (by omega) (AllP.c (by omega) (AllP.c (fun q hq=>match q,hq with | 0,_=>rfl) (AllP.c rfl (AllP.c rfl (AllP.c rfl (AllP.c (by unfold inR;(try simp only [Int.ofNat_eq_natCast]);omega) AllP.n))))))))) ?_
   have e:=zgJ R k
   have es:z8P R k=⟨(zK R).getD k 0,3,a1,c2,Int.ofNat (z9K R k (nW R) ^^^ (z9K R k (nW R) &&& z4d (shN R k).2.2 4095)),Int.ofNat (z4d (shN R k).2.2 4095)⟩:=by
    unfold z8P zq9 zqc znk znd
    rw [ha1,hc1,hc2]
   have hN:=congrArg List.length e
   rw [List.length_append,List.length_singleton] at hN
   refine ⟨g,?_,trivial⟩
   exact zN (ps:=[(0,4),(1,1)]) ⟨rfl,rfl,(by repeat (first | exact zu | refine zq rfl rfl rfl ?_ | refine z1B rfl rfl z5Y ?_ | refine z1B rfl rfl (AImp.acc hN.symm (fun _=>rfl)) ?_)),_,rfl,⟨rfl,BImp.acc hN.symm (fun q hq=>by rw [e];exact zaL _ _ _ (by rw [es];rfl) q hq),rfl,BImp.refl _,trivial⟩⟩
 have g:k=nM R:=by have:=nge g;omega
 subst g
 refine VSt.go za false [14] 200 rfl AllP.n ?_
 refine zf (z1s 0 rfl rfl (by (repeat (first | exact AllP.n | refine AllP.c (by first | assumption | rfl | omega | exact Nat.le_refl _ | (show 0<_;omega) | (show 1<_;omega) | (show 2<_;omega) | (show 3<_;omega) | (intro _ _;rfl) | (intro q hq;match q,hq with | 0,_=>rfl) | (unfold inR;(try simp only [Int.ofNat_eq_natCast]);omega)) ?_)))) ?_
 refine VSt.go za false [] 200 rfl AllP.n ?_
 refine zl (z3L 3 6 (fS []) 74 rfl) ?_
 refine zl (z3L 4 2 (fW []) 58 rfl) ?_
 refine VSt.loop (α :=Nat) (fun j F L=>j≤30∧F=hpF R j∧L=hpL R j) (fun j=>30 - j) 0 (zN (ps:=[(1,1),(2,2),(3,3),(4,4)]) (F0:=hpF R 0) (L0:=hpL R 0) ⟨rfl,rfl,(by repeat (first | exact zu | refine zq rfl rfl rfl ?_)),_,rfl,⟨rfl,BImp.refl _,rfl,BImp.cells ⟨z1h,z1h,trivial⟩,rfl,BImp.refl _,rfl,BImp.refl _,trivial⟩⟩) ⟨Nat.zero_le _,rfl,rfl⟩ ?_
 rintro j F L ⟨hj,rfl,rfl⟩
 have hsl:=ze3 R j
 have hwl:=Nat.le_trans (z9Z (R:=R) j) hsl
 refine VSt.go za false [] 200 rfl AllP.n ?_
 refine VSt.cond rfl (fun g=>?_) (fun g=>?_)
 rotate_left
 ·have g:j=30:=by
   have g:¬ Int.ofNat (j+1)≤30:=of_decide_eq_false g
   simp only [Int.ofNat_eq_natCast] at g;omega
  subst g
  refine VSt.go za false [180] 200 rfl AllP.n ?_
  refine zf (z1s 3 rfl rfl (by (repeat (first | exact AllP.n | refine AllP.c (by first | assumption | rfl | omega | exact Nat.le_refl _ | (show 0<_;omega) | (show 1<_;omega) | (show 2<_;omega) | (show 3<_;omega) | (intro _ _;rfl) | (intro q hq;match q,hq with | 0,_=>rfl) | (unfold inR;(try simp only [Int.ofNat_eq_natCast]);omega)) ?_)))) ?_
  refine zf (z1s 4 rfl rfl (by (repeat (first | exact AllP.n | refine AllP.c (by first | assumption | rfl | omega | exact Nat.le_refl _ | (show 0<_;omega) | (show 1<_;omega) | (show 2<_;omega) | (show 3<_;omega) | (intro _ _;rfl) | (intro q hq;match q,hq with | 0,_=>rfl) | (unfold inR;(try simp only [Int.ofNat_eq_natCast]);omega)) ?_)))) ?_
  refine VSt.go za false [] 200 rfl AllP.n ?_
  exact ⟨rfl,_,rfl,rfl,AImp.tup ⟨AImp.agg ⟨z04 (zn5 rfl),z04 (zn4 rfl),trivial⟩,AImp.refl _,trivial⟩⟩
 have g:j<30:=by
  have g:Int.ofNat (j+1)≤30:=of_decide_eq_true g
  simp only [Int.ofNat_eq_natCast] at g;omega
 have hix:inR (Int.ofNat (j+1)+1):=by unfold inR;simp only [Int.ofNat_eq_natCast];omega
 refine VSt.go za false [] 200 rfl AllP.n ?_
 refine VSt.pc rfl rfl rfl rfl rfl rfl rfl rfl ((zbg (b:=(zK R).isEmpty) (l:=zK R) (n:=Int.ofNat (j+1)) (by omega))) ?_
 refine VSt.go za false [147] 200 rfl AllP.n ?_
 refine z06 16 (iv (y8 R (j+1))) rfl (AImp.refl _) ?_
 refine VSt.go za false [] 200 rfl AllP.n ?_
 rcases z3Y R (j+1) with ⟨e,_⟩ | ⟨k,e,hk,h3⟩
 ·have e1:zU R (j+1)=zU R j:=by
   show (bif decide (y8 R (j+1)<0) then zU R j else zU R j++[z8P R (y8 R (j+1)).toNat])=_
   rw [e];rfl
  have e2:zT R (j+1)=zT R j:=by
   show (bif decide (y8 R (j+1)<0) then zT R j else bif ze7 R (j+1) then zT R j++[⟨Int.ofNat (j+1),(zK R).getD ((y8 R (j+1)).toNat+1) 0⟩] else zT R j)=_
   rw [e];rfl
  refine VSt.cond rfl (fun q=>?_) (fun q=>absurd (of_decide_eq_false q) (by rw [e];decide))
  refine VSt.go za false [] 200 rfl (AllP.c ‹_› AllP.n) ?_
  have e3:hpL R (j+1)=hpL R j:=by unfold hpL;rw [e1,e2]
  exact ⟨j+1,hpF R (j+1),hpL R j,zN (ps:=[(1,1),(2,2),(3,3),(4,4)]) ⟨rfl,rfl,(by repeat (first | exact zu | refine zq rfl rfl rfl ?_)),_,rfl,⟨rfl,BImp.refl _,rfl,BImp.refl _,rfl,BImp.refl _,rfl,BImp.refl _,trivial⟩⟩,⟨g,rfl,e3.symm⟩,by show 30 - (j+1)<30 - j;omega⟩
 have hkl:k<(zb5 R (nM R)).length:=by rw [ze5];exact hk
 have hnth:zo (zb5 R (nM R)) k=z8P R k:=by
  unfold zo zb5
  rw [z0f (show k<((List.range (nM R)).map (z8P R)).length by rw [List.length_map,List.length_range];exact hk),List.getElem_map,List.getElem_range]
 have e1:zU R (j+1)=zU R j++[z8P R k]:=by
  show (bif decide (y8 R (j+1)<0) then zU R j else zU R j++[z8P R (y8 R (j+1)).toNat])=_
  rw [e];rfl
 have hN1:=congrArg List.length e1
 rw [List.length_append,List.length_singleton] at hN1
 have hsw2:ze7 R (j+1)=(decide (k+1<nM R)&&R.sw.contains (Int.ofNat k)):=by unfold ze7;rw [e];rfl
 have e2:zT R (j+1)=bif ze7 R (j+1) then zT R j++[⟨Int.ofNat (j+1),(zK R).getD (k+1) 0⟩] else zT R j:=by
  show (bif decide (y8 R (j+1)<0) then zT R j else bif ze7 R (j+1) then zT R j++[⟨Int.ofNat (j+1),(zK R).getD ((y8 R (j+1)).toNat+1) 0⟩] else zT R j)=_
  rw [e];rfl
 refine VSt.cond rfl (fun q=>absurd (of_decide_eq_true q) (by rw [e];simp only [Int.ofNat_eq_natCast];omega)) (fun q=>?_)
 refine VSt.putC 16 (nv k) rfl (z2d e) ?_
 refine VSt.go za false [] 200 rfl (AllP.c ‹_› (AllP.c rfl (AllP.c (by omega) (AllP.c (by omega) (AllP.c (fun q hq=>match q,hq with | 0,_=>rfl) (AllP.c rfl (AllP.c rfl (AllP.c rfl (AllP.c (by unfold inR;(try simp only [Int.ofNat_eq_natCast]);omega) AllP.n))))))))) ?_
 refine zg 162 rfl (fun q1=>?_) (fun q1=>?_)
 rotate_left
 ·have q1:decide (k+1<nM R)=false:=decide_eq_false (Nat.not_lt.2 (nge (k:=k+1) q1))
  rw [hsw2,q1,Bool.false_and,cond_false] at e2
  have e2:zT R (j+1)=zT R j:=e2
  refine VSt.go za false [] 200 rfl (AllP.c ‹_› AllP.n) ?_
  have e3:hpL R (j+1)=hpM R (j+1) j:=by unfold hpL hpM;rw [e2]
  refine ⟨j+1,hpF R (j+1),hpM R (j+1) j,zN (ps:=[(1,1),(2,2),(3,5),(4,4)]) ⟨rfl,rfl,(by repeat (first | exact zu | refine zq rfl rfl rfl ?_)),_,rfl,⟨rfl,BImp.refl _,rfl,BImp.cells ⟨AImp.acc hN1.symm (fun _=>rfl),AImp.refl _,trivial⟩,rfl,BImp.acc hN1.symm (fun q hq=>by rw [e1];exact zaL _ _ _ (by rw [hnth];rfl) q hq),rfl,BImp.refl _,trivial⟩⟩,⟨g,rfl,e3.symm⟩,by show 30 - (j+1)<30 - j;omega⟩
 have q1:k+1<nM R:=nlt (k:=k+1) q1
 have hk1:k+1<(zK R).length:=by omega
 refine VSt.go za false [] 200 rfl AllP.n ?_
 refine VSt.pc rfl rfl rfl rfl rfl rfl rfl rfl ((zgY (b:=R.swB) (l:=R.sw) (n:=Int.ofNat k) hsw)) ?_
 refine VSt.go za false [] 200 rfl AllP.n ?_
 refine VSt.cond rfl (fun q2=>?_) (fun q2=>?_)
 ·have q2:R.sw.contains (Int.ofNat k)=true:=q2
  rw [hsw2,decide_eq_true q1,q2,Bool.true_and,cond_true] at e2
  have hN2:=congrArg List.length e2
  rw [List.length_append,List.length_singleton] at hN2
  refine VSt.go za false [174] 200 rfl (AllP.c (by unfold inR;(try simp only [Int.ofNat_eq_natCast]);omega) AllP.n) ?_
  refine z0v 173 (nv (k+1)) rfl (z2d rfl) ?_
  refine VSt.go za false [] 200 rfl (AllP.c ‹_› (AllP.c rfl (AllP.c (by omega) (AllP.c (by omega) (AllP.c (fun q hq=>match q,hq with | 0,_=>rfl) (AllP.c rfl (AllP.c rfl (AllP.c rfl (AllP.c ‹_› AllP.n))))))))) ?_
  refine ⟨j+1,hpF R (j+1),hpL R (j+1),zN (ps:=[(1,1),(2,2),(3,5),(4,6)]) ⟨rfl,rfl,(by repeat (first | exact zu | refine zq rfl rfl rfl ?_)),_,rfl,⟨rfl,BImp.refl _,rfl,BImp.cells ⟨AImp.acc hN1.symm (fun _=>rfl),AImp.acc hN2.symm (fun _=>rfl),trivial⟩,rfl,BImp.acc hN1.symm (fun q hq=>by rw [e1];exact zaL _ _ _ (by rw [hnth];rfl) q hq),rfl,BImp.acc hN2.symm (fun q hq=>by rw [e2];exact zmZ _ ⟨Int.ofNat (j+1),(zK R).getD (k+1) 0⟩ _ rfl q hq),trivial⟩⟩,⟨g,rfl,rfl⟩,by show 30 - (j+1)<30 - j;omega⟩
 ·have q2:R.sw.contains (Int.ofNat k)=false:=q2
  rw [hsw2,q2,Bool.and_false,cond_false] at e2
  have e2:zT R (j+1)=zT R j:=e2
  refine VSt.go za false [] 200 rfl (AllP.c ‹_› AllP.n) ?_
  have e3:hpL R (j+1)=hpM R (j+1) j:=by unfold hpL hpM;rw [e2]
  refine ⟨j+1,hpF R (j+1),hpM R (j+1) j,zN (ps:=[(1,1),(2,2),(3,5),(4,4)]) ⟨rfl,rfl,(by repeat (first | exact zu | refine zq rfl rfl rfl ?_)),_,rfl,⟨rfl,BImp.refl _,rfl,BImp.cells ⟨AImp.acc hN1.symm (fun _=>rfl),AImp.refl _,trivial⟩,rfl,BImp.acc hN1.symm (fun q hq=>by rw [e1];exact zaL _ _ _ (by rw [hnth];rfl) q hq),rfl,BImp.refl _,trivial⟩⟩,⟨g,rfl,e3.symm⟩,by show 30 - (j+1)<30 - j;omega⟩
end Go.Proofs.YtdpipdniklognaaGreat
/- Walks of the reference: other holes in a book. -/
set_option maxRecDepth 100000
namespace Go.Proofs.YtdpipdniklognaaGreat
variable {r:Rm}
set_option maxHeartbeats 8000000 in
theorem zkC {h:Hp} (hn:h.st.length≤1000) (hm:h.sw.length≤1000) (h0:0<h.st.length):VC (sE r) [] 103 [.agg ((eHp h).map .p)] [] (fun a L'=>a = .agg [.sl 0 6 0 (0+h.st.length) (0+h.st.length) 0,.p (z3J false h.sw)]∧L'=[(1,.cells [.sl 0 6 0 (0+h.st.length) (0+h.st.length) 0,.p (z3J false h.sw)] 25),(0,.arr (0+h.st.length) 6 (fS h.st) 74)]):=by
 refine z3Q (fn:=Tryz.f103) za (zC rfl) (by kernel_rfl) rfl rfl ?_
 by_cases h1:h.sw.length=0
 ·refine VSt.go za false [7] 200 rfl (AllP.c ‹_› (AllP.c (by omega) (AllP.c (fun _ _=>rfl) (AllP.c rfl (AllP.c rfl (AllP.c (by omega) (AllP.c (by omega) AllP.n))))))) ?_
  refine VSt.go za true [11] 200 rfl (AllP.c ‹_› AllP.n) ?_
  refine VSt.go za false [] 4 rfl (by (repeat (first | exact AllP.n | refine AllP.c (by first | assumption | rfl | omega | exact Nat.le_refl _ | (show 0<_;omega) | (show 1<_;omega) | (show 2<_;omega) | (show 3<_;omega) | (intro _ _;rfl) | (intro q hq;match q,hq with | 0,_=>rfl) | (unfold inR;(try simp only [Int.ofNat_eq_natCast]);omega)) ?_))) ?_
  refine zl (Vw.kp [2] [(1,1),(3,3),(4,4)] rfl) ?_
  refine zl (Vw.freeze 4 rfl rfl ⟨Nat.le_refl _,Nat.le_refl _,rfl⟩) ?_
  refine zl (zN (ps:=[(1,1),(0,3)]) (F0:=[(2,.ref 1 0)]) (L0:=[(1,.cells [.sl 0 6 0 (0+h.st.length) (0+h.st.length) 0,.p (z3J false h.sw)] 25),(0,.arr (0+h.st.length) 6 (fS h.st) 74)]) ⟨rfl,rfl,(by repeat (first | exact zu | refine zq rfl rfl rfl ?_)),_,rfl,⟨rfl,BImp.cells ⟨AImp.refl _,z5C h1,trivial⟩,rfl,BImp.arr (fun q _=>rfl),trivial⟩⟩) ?_
  refine VSt.go za false [] 200 rfl AllP.n ?_
  exact ⟨rfl,_,rfl,rfl,rfl⟩
 ·have k1:0<h.sw.length:=by omega
  refine VSt.go za false [7] 200 rfl (AllP.c ‹_› (AllP.c (by omega) (AllP.c (fun _ _=>rfl) (AllP.c rfl (AllP.c rfl (AllP.c (by omega) (AllP.c (by omega) AllP.n))))))) ?_
  refine VSt.go za false [11] 200 rfl (AllP.c ‹_› (AllP.c (by omega) (AllP.c (fun _ _=>rfl) (AllP.c rfl (AllP.c rfl (AllP.c (by omega) (AllP.c (by omega) AllP.n))))))) ?_
  refine VSt.go za false [] 4 rfl (by (repeat (first | exact AllP.n | refine AllP.c (by first | assumption | rfl | omega | exact Nat.le_refl _ | (show 0<_;omega) | (show 1<_;omega) | (show 2<_;omega) | (show 3<_;omega) | (intro _ _;rfl) | (intro q hq;match q,hq with | 0,_=>rfl) | (unfold inR;(try simp only [Int.ofNat_eq_natCast]);omega)) ?_))) ?_
  refine zl (Vw.kp [2] [(1,1),(3,3),(5,5)] rfl) ?_
  refine zl (Vw.freeze 5 rfl rfl ⟨Nat.le_of_eq (Nat.zero_add _),Nat.le_refl _,rfl⟩) ?_
  refine zl (zN (ps:=[(1,1),(0,3)]) (F0:=[(2,.ref 1 0)]) (L0:=[(1,.cells [.sl 0 6 0 (0+h.st.length) (0+h.st.length) 0,.p (z3J false h.sw)] 25),(0,.arr (0+h.st.length) 6 (fS h.st) 74)]) ⟨rfl,rfl,(by repeat (first | exact zu | refine zq rfl rfl rfl ?_)),_,rfl,⟨rfl,BImp.cells ⟨AImp.refl _,z4c (g:=fun i=>bif i.blt 0 then (fun _=>[]) (0+i) else fW h.sw (i - 0)) (fun _=>rfl),trivial⟩,rfl,BImp.arr (fun q _=>rfl),trivial⟩⟩) ?_
  refine VSt.go za false [] 200 rfl AllP.n ?_
  exact ⟨rfl,_,rfl,rfl,rfl⟩
def e2s (b:Bool) (l:List (Int×Int)):PV:=.lst 52 b l.length (fun k=>e2 (zcu l k))
set_option maxHeartbeats 8000000 in
theorem zn8 {h:Hp} {b:Bool} {l:List (Int×Int)} (hO:OkH h) (hl:l.length<9223372036854775808):VP (sE r) 43 [.agg ((eHp h).map .p),.p (e2s b l)] (.agg ((eHp (zdX h l)).map .p)):=by
 have hst:=hO.st
 have hsw:=hO.sw
 refine VP.of (fn:=Tryz.f43) za (zC rfl) (by kernel_rfl) rfl rfl rfl ?_
 by_cases h0:h.st.length=0
 ·refine VSt.go za false [] 200 rfl AllP.n ?_
  refine zf (z00 0 (eHp h) rfl rfl) ?_
  refine VSt.go za false [] 200 rfl AllP.n ?_
  refine VSt.pc rfl rfl rfl rfl rfl rfl rfl rfl ((znb (h:=h) (by omega) (by omega))) ?_
  refine VSt.go za false [] 200 rfl AllP.n ?_
  refine zl (Vw.kp [1,4,5,6] [(1,1),(2,2)] rfl) ?_
  have e0:z7I h.st l (min l.length 4)=h.st:=by
   have h1:(z7I h.st l (min l.length 4)).length=0:=by rw [z4t];exact h0
   rw [List.length_eq_zero_iff.1 h1,List.length_eq_zero_iff.1 h0]
  have eR:(eHp (zdX h l)).map AV.p=[.p (z0G false h.st),.p (z3J false h.sw)]:=by
   unfold zdX eHp
   rw [e0];rfl
  rw [eR]
  refine z2a (ti:=6) 0 [1,4,5] (fun _=>[]) (fun _=>[(1,.cells [.p (.lst 0 true 0 fun _=>[]),.p (.lst 0 true 0 fun _=>[])] 25),(2,.cells [.p (z0G false h.st),.p (z3J false h.sw)] 25)]) (fun _=>True) rfl rfl z1k (LImp.refl _) trivial (fun k hk _=>?_)
  refine VSt.go za false [] 200 rfl AllP.n ?_
  refine zg 15 rfl (fun q=>?_) (fun q=>?_)
  ·refine VSt.go za false [] 200 rfl AllP.n ?_
   refine zg 19 rfl (fun q2=>?_) (fun q2=>?_)
   ·refine VSt.go za false [] 200 rfl AllP.n ?_
    refine VSt.cond rfl (fun q3=>absurd (n0 q3) (by omega)) (fun q3=>?_)
    refine VSt.go za false [] 200 rfl AllP.n ?_
    exact EndsP.mk rfl rfl rfl rfl
   ·refine VSt.go za false [] 200 rfl AllP.n ?_
    exact EndsP.mk rfl rfl rfl rfl
  ·refine VSt.go za false [] 200 rfl AllP.n ?_
   exact EndsP.mk rfl rfl rfl rfl
 ·have hC:=zkC (r:=r) (h:=h) (by omega) (by omega) (by omega)
  rw [Nat.zero_add] at hC
  refine VSt.go za false [] 200 rfl AllP.n ?_
  refine zf (z00 0 (eHp h) rfl rfl) ?_
  refine VSt.go za false [] 200 rfl AllP.n ?_
  refine VSt.cc [] rfl rfl rfl rfl rfl rfl rfl rfl rfl rfl rfl hC ?_
  rintro a L' ⟨rfl,rfl⟩
  refine VSt.go za false [] 200 rfl AllP.n ?_
  refine zl (Vw.kp [1,4,5,6] [(1,1),(4,4),(2,2)] rfl) ?_
  refine z2a (ti:=6) (min l.length 4) [1,4,5] (fun _=>[]) (fun i=>[(1,.cells [.p (.lst 0 true 0 fun _=>[]),.p (.lst 0 true 0 fun _=>[])] 25),(4,.cells [.sl 2 6 0 h.st.length h.st.length 0,.p (z3J false h.sw)] 25),(2,.arr h.st.length 6 (fS (z7I h.st l i)) 74)]) (fun _=>True) rfl rfl z1k (LImp.refl _) trivial (fun k hk _=>?_)
  have h4:min l.length 4≤4:=Nat.min_le_right _ _
  have hll:min l.length 4≤l.length:=Nat.min_le_left _ _
  refine VSt.go za false [] 200 rfl AllP.n ?_
  refine ways (O:=True) (T:=?T) (Nat.lt_or_ge k (min l.length 4)) ?tail ?ha ?hb
  case ha =>
   intro hx _
   have hx4:k<4:=by omega
   have hxl:k<l.length:=by omega
   refine zg 15 rfl (fun q=>?_) (fun q=>absurd hxl (by have:=nge q;omega))
   refine VSt.go za false [] 200 rfl AllP.n ?_
   refine zg 19 rfl (fun q=>?_) (fun q=>absurd hx4 (by have:=nge (n:=4) q;omega))
   refine VSt.go za false [] 200 rfl AllP.n ?_
   refine VSt.cond rfl (fun q=>?_) (fun q=>absurd (n0' q) (by omega))
   refine VSt.go za false [] 200 rfl (AllP.c ‹_› (AllP.c rfl (AllP.c (by show 0<_;omega) AllP.n))) ?_
   refine z1P rfl rfl rfl rfl rfl rfl rfl rfl ((z6O (x:=(zcu l k).1) (m:=Int.ofNat h.st.length) (by simp only [Int.ofNat_eq_natCast];omega) (by simp only [Int.ofNat_eq_natCast];omega))) ?_
   refine VSt.go za false [36] 200 rfl AllP.n ?_
   have hmr:=z0N (x:=(zcu l k).1) (m:=Int.ofNat h.st.length) (by simp only [Int.ofNat_eq_natCast];omega)
   have hlen:=z4t h.st l k
   have hti:zX (zcu l k).1 (Int.ofNat h.st.length)=Int.ofNat (zlD (z7I h.st l k) (zcu l k)):=by
    unfold zlD
    rw [hlen]
    exact (Int.toNat_of_nonneg hmr.1).symm
   have htl:zlD (z7I h.st l k) (zcu l k)<h.st.length:=by
    rw [hti] at hmr
    have:=hmr.2
    simp only [Int.ofNat_eq_natCast] at this;omega
   have hb:=((z9U h.st l k _ htl).ok (hO.ok _ htl)).bit
   have hu:(zo (z7I h.st l k) (zlD (z7I h.st l k) (zcu l k))).unsure.toNat<9223372036854775808:=Nat.lt_of_le_of_lt hb.u2 (by decide)
   have hlo:z4d (zcu l k).2 4095<9223372036854775808:=Nat.lt_of_le_of_lt (z88 _ _) (by decide)
   have eK:z7I h.st l (k+1)=zlC (z7I h.st l k) (zcu l k):=rfl
   unfold zlC at eK
   generalize zlD (z7I h.st l k) (zcu l k)=z at *
   refine z06 7 (nv z) rfl (z2d hti) ?_
   refine VSt.go za false [46] 200 rfl (AllP.c ‹_› (AllP.c rfl (AllP.c (by omega) (AllP.c rfl (AllP.c ‹_› (AllP.c rfl (AllP.c (Nat.le_refl _) AllP.n))))))) ?_
   refine zn6 rfl rfl (PureA.bin (ka:=.i64) (kb:=.i64) (a:=(zcu l k).2) (b:=Int.ofNat 4095) (kc:=.i64) (c:=Int.ofNat (z4d (zcu l k).2 4095)) rfl rfl (zkr (by decide))) ?_
   refine VSt.go za false [49] 200 rfl AllP.n ?_
   refine z0v 48 (nv (zo (z7I h.st l k) z).unsure.toNat) rfl (show AImp (iv (zo (z7I h.st l k) (0+z)).unsure) _ from z2d (by rw [Nat.zero_add];exact hb.u1)) ?_
   refine VSt.go za false [] 200 rfl (AllP.c ‹_› (AllP.c ‹_› (AllP.c ‹_› (AllP.c rfl (AllP.c (by omega) (AllP.c rfl (AllP.c (Nat.le_refl _) (AllP.c (by unfold inR;(try simp only [Int.ofNat_eq_natCast]);omega) AllP.n)))))))) ?_
   refine ⟨hx,?_,trivial⟩
   refine zN (ps:=[(1,1),(4,4),(2,2)]) ⟨rfl,rfl,(by repeat (first | exact zu | refine zq rfl rfl rfl ?_)),_,rfl,(⟨rfl,BImp.refl _,rfl,BImp.refl _,rfl,BImp.arr (fun q hq=>?_),trivial⟩)⟩
   rw [eK]
   show _=zW (zo ((z7I h.st l k).set z (zoV (zo (z7I h.st l k) z) (zcu l k).2)) q)
   rw [zgL _ _ _ _ (by omega)]
   by_cases e:q=z
   ·subst e
    rw [if_pos rfl,Nat.zero_add,show Nat.beq q q=true from Nat.beq_refl _];rfl
   ·rw [if_neg e,Nat.zero_add,zmU e];rfl
  case hb =>
   intro hx tail
   have hx2:k=min l.length 4:=by omega
   refine zg 15 rfl (fun q=>?_) (fun q=>?_)
   ·have q:=nlt q
    refine VSt.go za false [] 200 rfl AllP.n ?_
    refine zg 19 rfl (fun q2=>absurd (nlt (n:=4) q2) (by omega)) (fun q2=>?_)
    refine VSt.go za false [56] 200 rfl AllP.n ?_
    refine zf (zN (ps:=[(1,1),(4,4),(2,2)]) (F0:=[(4,.ref 1 0),(5,.ref 4 0)]) (L0:=[(1,.cells [.p (.lst 0 true 0 fun _=>[]),.p (.lst 0 true 0 fun _=>[])] 25),(4,.cells [.sl 2 6 0 h.st.length h.st.length 0,.p (z3J false h.sw)] 25),(2,.arr h.st.length 6 (fS (z7I h.st l (min l.length 4))) 74)]) ⟨rfl,rfl,(by repeat (first | exact zu | refine zq rfl rfl rfl ?_)),_,rfl,⟨rfl,BImp.refl _,rfl,BImp.refl _,rfl,BImp.arr (fun q _=>by rw [←hx2]),trivial⟩⟩) ?_
    exact tail trivial
   ·refine VSt.go za false [56] 200 rfl AllP.n ?_
    refine zf (zN (ps:=[(1,1),(4,4),(2,2)]) (F0:=[(4,.ref 1 0),(5,.ref 4 0)]) (L0:=[(1,.cells [.p (.lst 0 true 0 fun _=>[]),.p (.lst 0 true 0 fun _=>[])] 25),(4,.cells [.sl 2 6 0 h.st.length h.st.length 0,.p (z3J false h.sw)] 25),(2,.arr h.st.length 6 (fS (z7I h.st l (min l.length 4))) 74)]) ⟨rfl,rfl,(by repeat (first | exact zu | refine zq rfl rfl rfl ?_)),_,rfl,⟨rfl,BImp.refl _,rfl,BImp.refl _,rfl,BImp.arr (fun q _=>by rw [←hx2]),trivial⟩⟩) ?_
    exact tail trivial
  case tail =>
   rintro -
   have hR:(eHp (zdX h l)).map AV.p=[.p (.lst 74 false h.st.length (fS (z7I h.st l (min l.length 4)))),.p (z3J false h.sw)]:=by
    unfold zdX eHp z0G
    rw [z4t];rfl
   rw [hR]
   refine zf (Vw.freeze 2 rfl rfl ⟨Nat.le_of_eq (Nat.zero_add _),Nat.le_refl _,rfl⟩) ?_
   refine VSt.go za false [] 200 rfl AllP.n ?_
   refine ⟨rfl,_,rfl,rfl,?_⟩
   exact AImp.agg ⟨AImp.lst (fun k _=>by rw [Nat.zero_add]),AImp.refl _,trivial⟩
end Go.Proofs.YtdpipdniklognaaGreat
/- The law LeafEither. -/
set_option maxRecDepth 100000
namespace Go.Proofs.YtdpipdniklognaaGreat
variable {r:Rm}
theorem zpa {h:Hp} (n:OkH h) (h1:h.stB=true→h.st=[]) (h2:h.swB=true→h.sw=[]):SzH h:=by
 refine ⟨by have:=n.st;omega,by have:=n.sw;omega,fun k hk=>?_,h1,h2⟩
 have b:=(n.ok k hk).bit
 have b1:=b.h1;have b2:=b.h2;have b3:=b.u1;have b4:=b.u2
 refine ⟨?_,?_⟩
 ·unfold inR;rw [b1];simp only [Int.ofNat_eq_natCast];omega
 ·unfold inR;rw [b3];simp only [Int.ofNat_eq_natCast];omega
theorem zpb {h:Hp} (n:OkH h):ppE h 3=0:=by
 unfold ppE
 rw [if_pos (zeQ n)];rfl
theorem zqb (l:List Int):eL l=z2F l.isEmpty l:=rfl
set_option maxHeartbeats 8000000 in
theorem z8T {t:Tr (List Value×TypeId)} {R:Raw} {b1 b2:Bool} {l:List (Int×Int)} {o:List Int} (hR:SzR R) (hl:l.length<9223372036854775808) (ho:o.length<9223372036854775808):VP (sE (t,true)) 8 [.agg ((zkb R).map .p),.p (e2s b1 l),.p (z2F b2 o)] (bv true):=by
 have hM:=zpd R
 have hO:=znx hM l
 have hz:=zpa hO (fun h=>by cases h) (fun h=>by cases h)
 have hpp:=zpb hO
 have c0:=zn9 (r:=(t,true)) hR
 have c1:=zn8 (r:=(t,true)) (b:=b1) hM hl
 have c2:=zkA (r:=(t,true)) (p:=3) hz
 have c3:=zdK (r:=(t,true)) (p:=3) hz
 have c4:=z3R (r:=(t,true)) (p:=3) (b:=b2) (l:=o) hz ho
 have c5:=zaP (r:=(t,true)) (p:=3) (b:=(zhb (zdX (mdH R) l) 3).isEmpty) (o:=zhb (zdX (mdH R) l) 3) hz zjy
 have c6:=z3R (r:=(t,true)) (p:=3) (b:=(cfV (zdX (mdH R) l) 3).isEmpty) (l:=cfV (zdX (mdH R) l) 3) hz zmP
 have heither:(0∈zZ (zdX (mdH R) l) 3)∨(0 ∉ zZ (zdX (mdH R) l) 3):=Classical.em _
 rcases heither with h0 | h0
 ·obtain ⟨e1,e2,e3,e4⟩:=zfG hpp h0
  rw [e1] at c2
  rw [e2] at c3
  rw [e3] at c4
  rw [e4] at c5
  refine VP.of (fn:=Tryz.f8) za (zC rfl) (by kernel_rfl) rfl rfl rfl ?_
  refine VSt.go za false [] 200 rfl AllP.n ?_
  refine zf (z00 0 (zkb R) rfl rfl) ?_
  refine VSt.go za false [] 200 rfl AllP.n ?_
  refine VSt.pc rfl rfl rfl rfl rfl rfl rfl rfl (c0) ?_
  refine VSt.go za false [] 200 rfl AllP.n ?_
  refine VSt.pc rfl rfl rfl rfl rfl rfl rfl rfl (c1) ?_
  refine VSt.go za false [] 200 rfl AllP.n ?_
  refine VSt.pc rfl rfl rfl rfl rfl rfl rfl rfl (c2) ?_
  refine VSt.go za false [] 200 rfl AllP.n ?_
  refine VSt.pc rfl rfl rfl rfl rfl rfl rfl rfl (c3) ?_
  refine VSt.go za false [] 200 rfl AllP.n ?_
  refine VSt.pc rfl rfl rfl rfl rfl rfl rfl rfl (c4) ?_
  refine VSt.go za false [] 200 rfl AllP.n ?_
  refine VSt.cond rfl (fun _=>?_) (fun q=>absurd q (by decide))
  refine VSt.go za false [] 200 rfl AllP.n ?_
  refine zg 40 rfl (fun q=>?_) (fun q=>?_)
  rotate_left
  ·exact absurd q (by decide)
  refine VSt.go za false [] 200 rfl AllP.n ?_
  refine zg 44 rfl (fun q=>?_) (fun q=>?_)
  rotate_left
  ·exact absurd q (by decide)
  refine VSt.go za false [] 200 rfl AllP.n ?_
  refine VSt.pc rfl rfl rfl rfl rfl rfl rfl rfl (c5) ?_
  refine VSt.go za false [] 200 rfl AllP.n ?_
  refine zg 50 rfl (fun q=>?_) (fun q=>?_)
  rotate_left
  ·exact absurd q (by decide)
  refine VSt.go za false [] 200 rfl AllP.n ?_
  refine VSt.pc rfl rfl rfl rfl rfl rfl rfl rfl ((zaO rfl)) ?_
  refine VSt.go za false [] 200 rfl AllP.n ?_
  exact EndsP.mk rfl rfl rfl rfl
 ·obtain ⟨e1,e2,e3,e4⟩:=zih hpp h0
  have e5:=e4 o
  rw [e1] at c2
  rw [e2] at c3
  rw [e3] at c6
  generalize zeP (zdX (mdH R) l) 3 o=v at *
  refine VP.of (fn:=Tryz.f8) za (zC rfl) (by kernel_rfl) rfl rfl rfl ?_
  refine VSt.go za false [] 200 rfl AllP.n ?_
  refine zf (z00 0 (zkb R) rfl rfl) ?_
  refine VSt.go za false [] 200 rfl AllP.n ?_
  refine VSt.pc rfl rfl rfl rfl rfl rfl rfl rfl (c0) ?_
  refine VSt.go za false [] 200 rfl AllP.n ?_
  refine VSt.pc rfl rfl rfl rfl rfl rfl rfl rfl (c1) ?_
  refine VSt.go za false [] 200 rfl AllP.n ?_
  refine VSt.pc rfl rfl rfl rfl rfl rfl rfl rfl (c2) ?_
  refine VSt.go za false [] 200 rfl AllP.n ?_
  refine VSt.pc rfl rfl rfl rfl rfl rfl rfl rfl (c3) ?_
  refine VSt.go za false [] 200 rfl AllP.n ?_
  refine VSt.pc rfl rfl rfl rfl rfl rfl rfl rfl (c4) ?_
  refine VSt.go za false [] 200 rfl AllP.n ?_
  refine VSt.cond rfl (fun q=>absurd q (by decide)) (fun _=>?_)
  refine VSt.go za false [] 200 rfl AllP.n ?_
  refine zg 55 rfl (fun q=>?_) (fun q=>?_)
  rotate_left
  ·exact absurd q (by decide)
  refine VSt.go za false [] 200 rfl AllP.n ?_
  refine zg 59 rfl (fun q=>?_) (fun q=>?_)
  rotate_left
  ·exact absurd q (by decide)
  refine VSt.go za false [] 200 rfl AllP.n ?_
  refine VSt.pc rfl rfl rfl rfl rfl rfl rfl rfl (c6) ?_
  refine VSt.go za false [] 200 rfl AllP.n ?_
  refine zg 65 rfl (fun q=>?_) (fun q=>?_)
  rotate_left
  ·exact absurd q (by decide)
  refine VSt.go za false [] 200 rfl AllP.n ?_
  refine zg 68 rfl (fun q=>?_) (fun q=>?_)
  ·refine VSt.go za false [] 200 rfl AllP.n ?_
   refine VSt.pc rfl rfl rfl rfl rfl rfl rfl rfl ((zaO rfl)) ?_
   refine VSt.go za false [] 200 rfl AllP.n ?_
   exact EndsP.mk rfl rfl rfl rfl
  ·have q:(!(v==0))=false:=q
   rw [Bool.not_eq_false'] at q
   have e6:=e5 (eq_of_beq q)
   refine VSt.go za false [74] 200 rfl AllP.n ?_
   refine z06 73 (bv true) rfl (z04 (by rw [decide_eq_true (show Int.ofNat (cfV (zdX (mdH R) l) 3).length≤Int.ofNat o.length by simp only [Int.ofNat_eq_natCast];omega)])) ?_
   refine VSt.go za false [] 200 rfl AllP.n ?_
   refine zg 76 rfl (fun q2=>?_) (fun q2=>?_)
   rotate_left
   ·exact absurd q2 (by decide)
   refine VSt.go za false [] 200 rfl AllP.n ?_
   refine VSt.pc rfl rfl rfl rfl rfl rfl rfl rfl ((zaO rfl)) ?_
   refine VSt.go za false [] 200 rfl AllP.n ?_
   exact EndsP.mk rfl rfl rfl rfl
end Go.Proofs.YtdpipdniklognaaGreat
/- Heaps and sheets as arguments. -/
set_option maxRecDepth 100000
namespace Go.Proofs.YtdpipdniklognaaGreat
noncomputable abbrev sE0:Env:=sE (.nil,true)
theorem z6k:∀ l:List PV,PImps l l
 | []=>trivial
 | a::l=>⟨PImp.refl a,z6k l⟩
theorem z8N {n:Nat} {q:List PV} (h:Sh sE0 (n+1) 3 q):∃ x,q=[.int .i64 x]∧inR x:=by
 obtain ⟨x,h,h2,h3⟩:=Sh.int (k:=.i64) (by kernel_rfl) h
 have h2 : -9223372036854775808≤x:=h2
 have h3:x≤9223372036854775807:=h3
 exact ⟨x,h,h2,by omega⟩
theorem Sh.array {E:Env} {n:Nat} {t:TypeId} {qs:List PV} {sz w m:Nat} {e:TypeId} (hi:(E.ti.get t).map (fun i=>(i.size,i.desc))=some (sz,.array m e)) (he:(E.ti.get e).map (·.size)=some w) (h:Sh E (n+1) t qs):qs.length=sz∧∀ k,k<m→Sh E n e ((qs.drop (k*w)).take w):=by
 unfold Sh at h
 cases hg:E.ti.get t with
 | none=>rw [hg] at hi;cases hi
 | some i =>
  rw [hg] at hi h
  have hi:(i.size,i.desc)=(sz,.array m e):=Option.some.inj hi
  simp only [Prod.mk.injEq] at hi
  obtain ⟨h1,h2⟩:=hi
  simp only [h2] at h
  obtain ⟨h3,g,h4,h5⟩:=h
  rw [h4] at he
  have he:g.size=w:=Option.some.inj he
  subst he
  exact ⟨h3.trans h1,h5⟩
theorem ziL {n:Nat} {q:List PV} (h:Sh sE0 (n+2) 66 q):∃ x y z,q=[.int .i64 x,.int .i64 y,.int .i64 z]:=by
 obtain ⟨h1,h2⟩:=Sh.array (sz:=3) (w:=1) (m:=3) (e:=3) (by kernel_rfl) (by kernel_rfl) h
 match q,h1 with
 | [a,b,c],_ =>
  obtain ⟨x,h3,_⟩:=z8N (h2 0 (by decide))
  obtain ⟨y,h4,_⟩:=z8N (h2 1 (by decide))
  obtain ⟨z,h5,_⟩:=z8N (h2 2 (by decide))
  have h3:[a]=[.int .i64 x]:=h3
  have h4:[b]=[.int .i64 y]:=h4
  have h5:[c]=[.int .i64 z]:=h5
  cases h3;cases h4;cases h5
  exact ⟨x,y,z,rfl⟩
theorem Shs.two {E:Env} {n:Nat} {a b:TypeId}:∀ {qs:List (List PV)},Shs E n [a,b] qs→∃ q1 q2,qs=[q1,q2]∧Sh E n a q1∧Sh E n b q2
 | [],h=>h.elim
 | [_],h=>h.2.elim
 | [q1,q2],h=>⟨q1,q2,rfl,h.1,h.2.1⟩
 | _::_::_::_,h=>h.2.2.elim
theorem Shs.three {E:Env} {n:Nat} {a b c:TypeId}:∀ {qs:List (List PV)},Shs E n [a,b,c] qs→∃ q1 q2 q3,qs=[q1,q2,q3]∧Sh E n a q1∧Sh E n b q2∧Sh E n c q3
 | [],h=>h.elim
 | [_],h=>h.2.elim
 | [_,_],h=>h.2.2.elim
 | [q1,q2,q3],h=>⟨q1,q2,q3,rfl,h.1,h.2.1,h.2.2.1⟩
 | _::_::_::_::_,h=>h.2.2.2.elim
theorem PImps.one {q:List PV} {p0:PV}:PImps q [p0]→∃ p,q=[p]∧PImp p p0:=match q with
 | []=>fun h=>h.elim
 | [p]=>fun h=>⟨p,rfl,h.1⟩
 | _::_::_=>fun h=>h.2.elim
theorem PImps.two {q:List PV} {p0 p1:PV}:PImps q [p0,p1]→∃ a b,q=[a,b]∧PImp a p0∧PImp b p1:=match q with
 | []=>fun h=>h.elim
 | [p]=>fun h=>h.2.elim
 | [a,b]=>fun h=>⟨a,b,rfl,h.1,h.2.1⟩
 | _::_::_::_=>fun h=>h.2.2.elim
end Go.Proofs.YtdpipdniklognaaGreat
/- The law LeafEither holds of what arguments look like, where the list of Ids is short. -/
set_option maxRecDepth 100000
namespace Go.Proofs.YtdpipdniklognaaGreat
open Go.ChangeShapes Go.WideShapes Go.RowKit
theorem zkl {H:Type} (d:DataW H):1≤Rows.uptoBulk d:=by
 cases d with
 | lit l=>cases l <;> simp [Rows.uptoBulk]
 | nil=>simp [Rows.uptoBulk]
 | ptr d=>simp [Rows.uptoBulk]
 | slice elems spare=>simp [Rows.uptoBulk]
 | agg parts=>simp [Rows.uptoBulk]
 | iface t d=>simp [Rows.uptoBulk]
 | map entries=>simp [Rows.uptoBulk]
 | held h=>simp [Rows.uptoBulk]
theorem zcc {H:Type} {d:DataW H} {l:List (DataW H)} (h:d∈l):Rows.uptoBulk d≤Rows.uptoBulkAll l:=by
 induction l with
 | nil=>cases h
 | cons x r ih =>
  simp only [Rows.uptoBulkAll]
  cases List.mem_cons.1 h with
  | inl e=>subst e;omega
  | inr e=>have:=ih e;omega
theorem zkm {H:Type} (l:List (DataW H)):l.length≤Rows.uptoBulkAll l:=by
 induction l with
 | nil=>simp [Rows.uptoBulkAll]
 | cons x r ih=>have:=zkl x;simp only [Rows.uptoBulkAll,List.length_cons];omega
theorem zfM {H:Type} {ds:List (DataW H)} (h:Rows.uptoSmall H ds=true) (parts els sp:List (DataW H)) (hp:DataW.agg parts∈ds) (hm:DataW.slice els sp∈parts):els.length≤1048576:=by
 have h1:Rows.uptoBulkAll ds≤1048576:=of_decide_eq_true h
 have h2:=zcc hp
 have h3:=zcc hm
 have h4:Rows.uptoBulk (DataW.slice els sp)=Rows.uptoBulkAll els+Rows.uptoBulkAll sp+1:=by simp only [Rows.uptoBulk]
 have h5:Rows.uptoBulk (DataW.agg parts)=Rows.uptoBulkAll parts+1:=by simp only [Rows.uptoBulk]
 have h6:=zkm els
 omega
theorem z8M {n:Nat} {q:List PV} (h:Sh sE0 (n+2) 37 q):∃ (b:Bool) (l:List Int) (f:Nat→List PV),q=[.lst 3 b l.length f]∧PImp (.lst 3 b l.length f) (z2F b l)∧l.length<9223372036854775808:=by
 obtain ⟨nb,m,f,rfl,h1,h2,h3⟩:=Sh.slice (e:=3) (by kernel_rfl) h
 obtain ⟨l,rfl,h4⟩:=zai (0:Int) (P:=fun k x=>f k=[.int .i64 x]) fun k hk=>let ⟨x,h,_⟩:=Sh.int (k:=.i64) (by kernel_rfl) (h3 k hk);⟨x,h⟩
 exact ⟨nb,l,f,rfl,PImp.lst fun k hk=>by rw [h4 k hk];exact ⟨PImp.refl _,trivial⟩,h2⟩
theorem zku {n:Nat} {q:List PV} (h:Sh sE0 (n+2) 52 q):∃ x:Int×Int,q=YtdpipdniklognaaGreat.e2 x:=by
 obtain ⟨h1,h2⟩:=Sh.array (sz:=2) (w:=1) (m:=2) (e:=3) (by kernel_rfl) (by kernel_rfl) h
 match q,h1 with
 | [a,b],_ =>
  obtain ⟨x,h3,_⟩:=z8N (h2 0 (by decide))
  obtain ⟨y,h4,_⟩:=z8N (h2 1 (by decide))
  have h3:[a]=[.int .i64 x]:=h3
  have h4:[b]=[.int .i64 y]:=h4
  cases h3;cases h4
  exact ⟨(x,y),rfl⟩
theorem zcj {n:Nat} {q:List PV} (h:Sh sE0 (n+3) 49 q):∃ (b:Bool) (l:List (Int×Int)),PImps q [.lst 52 b l.length (fun k=>YtdpipdniklognaaGreat.e2 (l.getD k (0,0)))]∧l.length<9223372036854775808:=by
 obtain ⟨nb,m,f,rfl,h1,h2,h3⟩:=Sh.slice (e:=52) (by kernel_rfl) h
 obtain ⟨l,rfl,h4⟩:=zai ((0,0):Int×Int) (P:=fun k x=>f k=YtdpipdniklognaaGreat.e2 x) fun k hk=>zku (h3 k hk)
 exact ⟨nb,l,⟨PImp.lst fun k hk=>by rw [h4 k hk];exact z6k _,trivial⟩,h2⟩
theorem zkt {n:Nat} {q:List PV} (h:Sh sE0 (n+2) 66 q):∃ x:Int×Int×Int,q=YtdpipdniklognaaGreat.e3 x:=by
 obtain ⟨x,y,z,e⟩:=ziL h
 exact ⟨(x,y,z),e⟩
theorem ziK {n:Nat} {q:List PV} (h:Sh sE0 (n+3) 48 q):∃ (b:Bool) (l:List (Int×Int×Int)),PImps q [.lst 66 b l.length (fun k=>YtdpipdniklognaaGreat.e3 (l.getD k (0,0,0)))]∧l.length<9223372036854775808:=by
 obtain ⟨nb,m,f,rfl,h1,h2,h3⟩:=Sh.slice (e:=66) (by kernel_rfl) h
 obtain ⟨l,rfl,h4⟩:=zai ((0,0,0):Int×Int×Int) (P:=fun k x=>f k=YtdpipdniklognaaGreat.e3 x) fun k hk=>zkt (h3 k hk)
 exact ⟨nb,l,⟨PImp.lst fun k hk=>by rw [h4 k hk];exact z6k _,trivial⟩,h2⟩
theorem zmY {n:Nat} {q:List PV} (h:Sh sE0 (n+4) 51 q):∃ R:Raw,PImps q (zkb R)∧R.sh.length<9223372036854775808∧R.wo.length<9223372036854775808∧R.sw.length<9223372036854775808∧∃ nb f,q[3]? = some (.lst 3 nb R.ids.length f):=by
 obtain ⟨h1,h2⟩:=Sh.struct (sz:=4) (l:=[(48,0),(49,1),(37,2),(37,3)]) (by kernel_rfl) h
 match q,h1 with
 | [a,b,c,d],_ =>
  obtain ⟨b0,l0,k0,m0⟩:=ziK (h2 (48,0) (by simp) 1 (by kernel_rfl))
  obtain ⟨b1,l1,k1,m1⟩:=zcj (h2 (49,1) (by simp) 1 (by kernel_rfl))
  obtain ⟨b2,l2,f2,k2,p2,m2⟩:=z8M (h2 (37,2) (by simp) 1 (by kernel_rfl))
  obtain ⟨b3,l3,f3,k3,p3,m3⟩:=z8M (h2 (37,3) (by simp) 1 (by kernel_rfl))
  have k0:PImps [a] _:=k0
  have k1:PImps [b] _:=k1
  have k2:[c]=_:=k2
  have k3:[d]=_:=k3
  cases k2;cases k3
  exact ⟨⟨l0,b0,l1,b1,l2,b2,l3,b3⟩,⟨k0.1,k1.1,p2,p3,trivial⟩,m0,m1,m2,b3,f3,rfl⟩
theorem zgy:Tryz.checked.prog.underlying 37=some (.slice 3):=by kernel_rfl
theorem zdw (r:Tr (List Value×TypeId)) (qs:List (List PV)) (h:Shs sE0 9 Tryz.f8.params.toList qs) (hs:zcs Tryz.checked.prog sE0 1048576 Tryz.f8.params.toList qs):VP (sE (r,true)) 8 (z6X sE0 Tryz.f8.params.toList qs) (.p (.bool true)):=by
 have e:Tryz.f8.params.toList=[51,49,37]:=rfl
 rw [e] at h hs ⊢
 obtain ⟨q1,q2,q3,rfl,g1,g2,g3⟩:=Shs.three h
 obtain ⟨R,h1,n1,n2,n3,nb,f,h4⟩:=zmY (n:=5) g1
 obtain ⟨b1,l,h2,hl⟩:=zcj (n:=6) g2
 obtain ⟨b2,o,f3,rfl,h3,ho⟩:=z8M (n:=7) g3
 have hid:R.ids.length≤1048576:=hs 0 3 51 3 3 _ _ nb R.ids.length f q1 rfl Tryz.underlying51 (by kernel_rfl) rfl rfl zgy (by kernel_rfl) h4
 obtain ⟨p2,rfl,h5⟩:=PImps.one h2
 have e2:z6X sE0 [51,49,37] [q1,[p2],[.lst 3 b2 o.length f3]]=[.agg (q1.map .p),.p p2,.p (.lst 3 b2 o.length f3)]:=by
  show [zaK _ _ _,zaK _ _ _,zaK _ _ _]=_
  unfold zaK
  rw [show zn2 sE0 51=true by kernel_rfl,show zn2 sE0 49=false by kernel_rfl,show zn2 sE0 37=false by kernel_rfl];rfl
 rw [e2]
 exact VP.imp (z8T (b1:=b1) (b2:=b2) (l:=l) (o:=o) ⟨n1,n2,n3,by omega⟩ hl ho) ⟨zj0 h1,PImp.toA h5,PImp.toA h3,trivial⟩
theorem zpx:ownKnob Tryz.checked.prog.godebug=none:=by kernel_rfl
theorem zay (os:Os) (started:os.Started) (H:Type) (enc:TypeId×Value→H) (F:Stop.Interp) :
  ReturnsInHanded {} Tryz.checked os 8 .any ((Rows.OpenSpec.upto Rows.leafEitherSpec).pre6 enc Tryz.checked.prog Tryz.f8 [] false) (((Rows.OpenSpec.upto Rows.leafEitherSpec).at F).post enc Tryz.checked.prog Tryz.f8 false Rows.leafEitherUptoRow.fresh Rows.leafEitherUptoRow.handsOn Rows.leafEitherUptoRow.again):=by
 refine zbI (E:=sE0) (m:=9) (B:=1048576) (s:=Rows.leafEitherSpec) (k:=Rows.uptoSmall) (tb:=4) zpx started (by kernel_rfl) (by kernel_rfl)
  (OpenSpec.witness (enc:=enc) (C:=Tryz.checked) (s:=Rows.OpenSpec.upto Rows.leafEitherSpec) (k:=Rows.uptoSmall) rfl false ⟨#[],#[.agg #[.slice none 0 0,.slice none 0 0,.slice none 0 0,.slice none 0 0],.slice none 0 0,.slice none 0 0],[]⟩ 20 (by kernel_rfl) (by kernel_rfl) (by kernel_rfl)
   (x:=([.agg [.nil,.nil,.nil,.nil],.nil,.nil],[],[])) (by kernel_rfl) rfl (by kernel_rfl))
  (of_decide_eq_true (by kernel_rfl)) (fun r=>zp2 (r,true)) (by kernel_rfl) (by kernel_rfl) (by kernel_rfl) (by kernel_rfl) (by kernel_rfl) rfl ?_ (fun ds h=>zfM h) zdw
 intro ds hds
 have:ds.length=3:=hds
 match ds,this with
 | [d1,d2,d3],_=>exact ⟨rfl,rfl,rfl⟩
theorem either_holds:Rows.LeafEitherUptoSaid :=
 OpenClaim.holds_of_cond 8 Tryz.f8 rfl rfl rfl rfl rfl rfl rfl ⟨rfl,rfl,rfl,rfl,rfl⟩ rfl rfl rfl rfl rfl (by kernel_rfl) (by kernel_rfl) (by kernel_rfl)
  (of_decide_eq_true (by kernel_rfl)) (by unfold Func.isWrapper;first | (rw [if_pos (by decide +kernel)];kernel_rfl) | (rw [if_neg (by decide +kernel)];exact ⟨rfl,rfl⟩))
  (fun os started H enc _ F=>zay os started H enc F)
end Go.Proofs.YtdpipdniklognaaGreat
