/- The program's LeafNth returns true for all numbers that describe a book and all lists of Ids, without an exception and without changing its arguments: a part of the proof. -/
import Derived.WalkKit
import Derived.OrdersHeld
set_option linter.all false
/- A region that draws its order, each of whose operations leaves a known value and keeps a condition on the world: it may be walked once, in the text's order; the world behind each operation is any that meets the condition. -/
set_option maxRecDepth 100000
namespace Go.Proofs.YtdpipdniklognaaGreat
section
open Go.RowKit
section
variable {P:Program} {ops:Array Oper} {Q:Exit→Act→World→Prop} {md:Region.Mode} {S:World→Prop}
def zjM (P:Program) (S:World→Prop) (v:Value):Result Next→Prop
 | .ok (.value u) w'=>u=v∧S w'
 | .ok .skip w'=>v=undef∧S w'
 | .ok (.enter f args) w'=>Calls P f args w' fun e w''=>e = .returned v∧S w''
 | _=>False
def YieldsG (P:Program) (ops:Array Oper) (S:World→Prop) (o:Oper) (v:Value) (a:Act):Prop :=
 (Region.wanted o (yielded ops a.tmps)=true∧∀ W,S W→zjM P S v ((execOp a.eval o).run P W)) ∨
 (Region.wanted o (yielded ops a.tmps)=false∧v=undef)
theorem YieldsG.of_same {o:Oper} {v:Value} {a a':Act} (hy:YieldsG P ops S o v a) (he:execOp a'.eval o=execOp a.eval o)
  (hw:Region.wanted o (yielded ops a'.tmps)=Region.wanted o (yielded ops a.tmps)):YieldsG P ops S o v a':=by
 unfold YieldsG at *
 rw [he,hw]
 exact hy
theorem YieldsG.wpOp {i:Nat} {o:Oper} {v:Value} {a:Act} (hi:ops[i]? = some o) (hy:YieldsG P ops S o v a)
  {K:Act→World→Prop} {w:World} (hS:S w) (h:∀ w',S w'→K (a.put o.dst v) w'):wpOp P ops Q i K a w:=by
 unfold Go.wpOp
 simp only [hi]
 rcases hy with ⟨hw,hv⟩ | ⟨hw,rfl⟩
 ·simp only [hw,if_true,Oper.wp]
  refine .inl ?_
  have:=hv w hS
  generalize (execOp a.eval o).run P w=r at *
  cases r with
  | ok n w' =>
   cases n <;> simp only [zjM] at this <;> simp only [Oper.upon]
   case value u=>obtain ⟨rfl,hs⟩:=this;exact h _ hs
   case skip=>obtain ⟨rfl,hs⟩:=this;exact h _ hs
   case enter f args=>exact Calls.mono this fun e w'' ⟨he,hs⟩=>by subst he;exact h _ hs
  | halt x w'=>exact this.elim
 ·simp only [hw,Bool.false_eq_true,if_false];exact h _ hS
end
def Cells:List (Addr×Value)→World→Prop
 | [],_=>True
 | (p,v)::l,W=>W.cell? p=some v∧Cells l W
theorem Cells.keep {W W':World}:∀ {l:List (Addr×Value)},Cells l W→Below W.heap.size W W'→Cells l W'
 | [],_,_=>trivial
 | (p,v)::l,h,hb=>⟨(hb.cell (p:=p) (World.block_lt_of_cell? W p h.1)).trans h.1,Cells.keep h.2 hb⟩
def Held (B:Nat) (w:World) (l:List (Addr×Value)) (W:World):Prop:=Below B w W∧Cells l W
theorem Held.keep {B:Nat} {w W W':World} {l:List (Addr×Value)} (hB:B≤w.heap.size) (h:Held B w l W) (hb:Below W.heap.size W W'):Held B w l W' :=
 ⟨h.1.trans (hb.mono (Nat.le_trans hB h.1.size)),h.2.keep hb⟩
theorem Held.call {P:Program} {f:FuncId} {args:Array Value} {B:Nat} {w W:World} {l:List (Addr×Value)} {v:Value} (hB:B≤w.heap.size) (h:Held B w l W)
  (hc:Calls P f args W fun e W'=>e = .returned v∧Below W.heap.size W W'):Calls P f args W fun e W'=>e = .returned v∧Held B w l W' :=
 hc.mono fun _ _ ⟨he,hb⟩=>⟨he,h.keep hB hb⟩
section
variable {P:Program} {ops:Array Oper} {Q:Exit→Act→World→Prop} {md:Region.Mode} {S:World→Prop}
def zlC (P:Program) (o:Oper) (a:Act) (K:Act→World→Prop):Result Next→Prop
 | .ok (.value v) w'=>K (a.put o.dst v) w'
 | .ok .skip w'=>K (a.put o.dst undef) w'
 | .ok (.enter f args) w'=>Calls P f args w' fun e w''=>∃ v,e = .returned v∧K (a.put o.dst v) w''
 | _=>False
def Does (P:Program) (ops:Array Oper) (o:Oper) (a:Act) (w:World) (K:Act→World→Prop):Prop :=
 (Region.wanted o (yielded ops a.tmps)=true∧zlC P o a K ((execOp a.eval o).run P w)) ∨
 (Region.wanted o (yielded ops a.tmps)=false∧K (a.put o.dst undef) w)
def zmo (P:Program) (v:Value) (W:World):Result Next→Prop
 | .ok (.value u) w'=>u=v∧w'=W
 | .ok .skip w'=>v=undef∧w'=W
 | .ok (.enter f args) w'=>Calls P f args w' fun e w''=>e = .returned v∧w''=W
 | _=>False
def Reads (P:Program) (ops:Array Oper) (S:World→Prop) (o:Oper) (v:Value) (a:Act):Prop :=
 (Region.wanted o (yielded ops a.tmps)=true∧∀ W,S W→zmo P v W ((execOp a.eval o).run P W)) ∨
 (Region.wanted o (yielded ops a.tmps)=false∧v=undef)
theorem Reads.of_same {o:Oper} {v:Value} {a a':Act} (hy:Reads P ops S o v a) (he:execOp a'.eval o=execOp a.eval o)
  (hw:Region.wanted o (yielded ops a'.tmps)=Region.wanted o (yielded ops a.tmps)):Reads P ops S o v a':=by
 unfold Reads at *
 rw [he,hw]
 exact hy
theorem z6e {o:Oper} {v:Value} {a:Act} {w:World} {K:Act→World→Prop} (hS:S w) (hy:Reads P ops S o v a) (h:K (a.put o.dst v) w):Does P ops o a w K:=by
 rcases hy with ⟨hw,hv⟩ | ⟨hw,rfl⟩
 ·refine .inl ⟨hw,?_⟩
  have:=hv w hS
  generalize (execOp a.eval o).run P w=r at *
  cases r with
  | ok n w' =>
   cases n <;> simp only [zmo] at this <;> simp only [zlC]
   case value u=>obtain ⟨rfl,rfl⟩:=this;exact h
   case skip=>obtain ⟨rfl,rfl⟩:=this;exact h
   case enter f args=>exact Calls.mono this fun e w'' ⟨he,hw⟩=>⟨v,he,hw ▸ h⟩
  | halt x w'=>exact this.elim
 ·exact .inr ⟨hw,h⟩
theorem Does.swap {o:Oper} {a a':Act} {w:World} {K K':Act→World→Prop} (h:Does P ops o a w K) (he:execOp a.eval o=execOp a'.eval o)
  (hw:Region.wanted o (yielded ops a.tmps)=Region.wanted o (yielded ops a'.tmps)) (hk:∀ u W,K (a.put o.dst u) W→K' (a'.put o.dst u) W):Does P ops o a' w K':=by
 unfold Does at *
 rw [←he,←hw]
 rcases h with ⟨h1,h⟩ | ⟨h1,h⟩
 ·refine .inl ⟨h1,?_⟩
  generalize (execOp a.eval o).run P w=r at *
  cases r with
  | ok n w' =>
   cases n <;> simp only [zlC] at h ⊢
   case value u=>exact hk _ _ h
   case skip=>exact hk _ _ h
   case enter f args=>exact Calls.mono h fun e w'' ⟨u,he,hw⟩=>⟨u,he,hk _ _ hw⟩
  | halt x w'=>exact h.elim
 ·exact .inr ⟨h1,hk _ _ h⟩
theorem Does.mono {o:Oper} {a:Act} {w:World} {K K':Act→World→Prop} (h:Does P ops o a w K) (hk:∀ a W,K a W→K' a W):Does P ops o a w K' :=
 h.swap rfl rfl fun _ _=>hk _ _
theorem Does.wpOp {i:Nat} {o:Oper} {a:Act} {w:World} {K:Act→World→Prop} (hi:ops[i]? = some o) (h:Does P ops o a w K):wpOp P ops Q i K a w:=by
 unfold Go.wpOp
 simp only [hi]
 rcases h with ⟨hw,h⟩ | ⟨hw,h⟩
 ·simp only [hw,if_true,Oper.wp]
  refine .inl ?_
  generalize (execOp a.eval o).run P w=r at *
  cases r with
  | ok n w' =>
   cases n <;> simp only [zlC] at h <;> simp only [Oper.upon]
   case value u=>exact h
   case skip=>exact h
   case enter f args=>exact Calls.mono h fun e w'' ⟨v,he,hs⟩=>by subst he;exact hs
  | halt x w'=>exact h.elim
 ·simp only [hw,Bool.false_eq_true,if_false];exact h
def zq2 (P:Program) (md:Region.Mode) (ops:Array Oper) (Q:Exit→Act→World→Prop):Nat→Array Bool→Act→World→Prop
 | 0,listed,a,w=>Region.ready md ops listed=[]∧Q .normal a w
 | fuel+1,listed,a,w=>(Region.ready md ops listed=[]→Q .normal a w) ∧
  ∀ i∈Region.ready md ops listed,∃ o,ops[i]? = some o∧Does P ops o a w (zq2 P md ops Q fuel (listed.setIfInBounds i true))
theorem z5s:∀ (fuel:Nat) (listed:Array Bool) (a:Act) (w:World),zq2 P md ops Q fuel listed a w→wpAny P md ops Q fuel listed a w
 | 0,_,_,_,h=>h
 | fuel+1,_,_,_,h=>⟨h.1,fun i hi=>by
   obtain ⟨o,ho,hn⟩:=h.2 i hi
   exact (hn.mono fun a W=>z5s fuel _ a W).wpOp ho⟩
def z3j (md:Region.Mode) (ops:Array Oper) (listed:Array Bool):Prop:=∀ m om,ops[m]? = some om→listed.getD m false=true→∀ e∈om.after,Region.binds md e=true→listed.getD e.on false=true
def zjv (md:Region.Mode) (ops:Array Oper) (k:Nat) (listed:Array Bool):Bool :=
 (List.range ops.size).all fun i=>!listed.getD i false||(List.range ops.size).any fun m=>(m==k||(m != i&&listed.getD m false))&&((ops[m]?).map (·.after.any fun e=>Region.binds md e&&e.on==i)).getD false
def anyS (P:Program) (md:Region.Mode) (ops:Array Oper) (Q:Exit→Act→World→Prop) (S:World→Prop):Nat→Array Bool→Act→World→Prop
 | 0,listed,a,w=>S w∧Region.ready md ops listed=[]∧Q .normal a w
 | fuel+1,listed,a,w=>S w ∧
  ((∃ k,Region.ready md ops listed=[k]∧zjv md ops k listed=true∧zq2 P md ops Q (fuel+1) listed a w) ∨
  (Region.ready md ops listed≠[]∧∀ i∈Region.ready md ops listed,∃ o,ops[i]? = some o∧Does P ops o a w (anyS P md ops Q S fuel (listed.setIfInBounds i true))))
theorem anyS.holds:∀ {fuel:Nat} {listed:Array Bool} {a:Act} {w:World},anyS P md ops Q S fuel listed a w→S w
 | 0,_,_,_,h=>h.1
 | _+1,_,_,_,h=>h.1
theorem z7m:∀ (fuel:Nat) (listed:Array Bool) (a:Act) (w:World),anyS P md ops Q S fuel listed a w→zq2 P md ops Q fuel listed a w
 | 0,_,_,_,h=>h.2
 | fuel+1,_,_,_,h=>by
   rcases h.2 with ⟨k,_,_,h⟩ | ⟨hne,h⟩
   ·exact h
   ·exact ⟨fun hr=>absurd hr hne,fun i hi=>by
     obtain ⟨o,ho,hn⟩:=h i hi
     exact ⟨o,ho,hn.mono fun a W=>z7m fuel _ a W⟩⟩
theorem zdb {l:Array Bool} {i j:Nat} (h:(l.setIfInBounds i true).getD j false=true):j=i∨l.getD j false=true:=by
 by_cases hij:i=j
 ·exact .inl hij.symm
 ·rw [getD_set_ne false hij] at h;exact .inr h
theorem zd7 {listed:Array Bool} {i:Nat} (h:listed.getD i true=false):i<listed.size∧listed.getD i false=false:=by
 rcases Nat.lt_or_ge i listed.size with h' | h'
 ·refine ⟨h',?_⟩
  simp [h'] at h ⊢
  exact h
 ·simp [Array.getElem?_eq_none h'] at h
theorem z13 {listed:Array Bool} {i:Nat} (h:z3j md ops listed) (hi:i∈Region.ready md ops listed):z3j md ops (listed.setIfInBounds i true):=by
 obtain ⟨hun,oi,hoi,hall⟩:=mem_ready.1 hi
 intro m om hom hm e he hb
 rcases zdb hm with rfl | hm'
 ·obtain rfl:=Option.some.inj (hoi.symm.trans hom)
  exact getD_set_true (hall e he hb)
 ·exact getD_set_true (h m om hom hm' e he hb)
theorem zgu {i:Nat} {oi:Oper} {v:Value} (hi:ops[i]? = some oi) (hsel:∀ (j:Nat) (o:Oper) cs b,ops[j]? = some o→o.op≠.select cs b) :
  ∀ (fuel:Nat) (listed:Array Bool) (a:Act) (w:World),z3j md ops listed →
   (∀ j oj,ops[j]? = some oj→j≠i→listed.getD j true=false→(∀ e∈oj.after,Region.binds md e=true→e.on≠i)→oi.apart ops oj=true) →
   i∈Region.ready md ops listed→S w→Reads P ops S oi v a →
   anyS P md ops Q S fuel (listed.setIfInBounds i true) (a.put oi.dst v) w→anyS P md ops Q S (fuel+1) listed a w:=by
 intro fuel
 induction fuel with
 | zero =>
  intro listed a w _ _ hr hS hy H
  refine ⟨hS,.inr ⟨fun h=>(by rw [h] at hr;cases hr),fun j hj=>?_⟩⟩
  by_cases hji:j=i
  ·subst hji;exact ⟨oi,hi,z6e hS hy H⟩
  ·have:=ready_mono hj hji
   rw [H.2.1] at this
   cases this
 | succ fuel ih =>
  intro listed a w hcd hfree hr hS hy H
  refine ⟨hS,.inr ⟨fun h=>(by rw [h] at hr;cases hr),fun j hj=>?_⟩⟩
  by_cases hji:j=i
  ·subst hji;exact ⟨oi,hi,z6e hS hy H⟩
  ·obtain ⟨hjun,oj,hoj,hall⟩:=mem_ready.1 hj
   obtain ⟨hilt,hiun⟩:=zd7 (mem_ready.1 hr).1
   have hnot:∀ e∈oj.after,Region.binds md e=true→e.on≠i:=fun e he hb heq=>by
    have h1:=hall e he hb
    rw [heq,hiun] at h1
    cases h1
   obtain ⟨h1,h2,h3⟩:=Oper.apart_spec (hfree j oj hoj hji hjun hnot)
   have hfree':∀ k ok,ops[k]? = some ok→k≠i→(listed.setIfInBounds j true).getD k true=false →
     (∀ e∈ok.after,Region.binds md e=true→e.on≠i)→oi.apart ops ok=true:=fun k ok hk hki hun hno=>by
    refine hfree k ok hk hki ?_ hno
    by_cases hjk:j=k
    ·subst hjk;exact hjun
    ·rw [getD_set_ne true hjk] at hun;exact hun
   have rest:Does P ops oj (a.put oi.dst v) w (anyS P md ops Q S fuel ((listed.setIfInBounds i true).setIfInBounds j true)):=by
    rcases H.2 with ⟨k,hk,haw,_⟩ | ⟨_,hu⟩
    ·exfalso
     have hm:=ready_mono hj hji
     rw [hk] at hm
     have hjk:j=k:=by simpa using hm
     subst hjk
     have:=List.all_eq_true.1 haw i (List.mem_range.2 (Array.getElem?_eq_some_iff.1 hi).1)
     simp only [Bool.or_eq_true,Bool.not_eq_true',List.any_eq_true,Bool.and_eq_true,List.mem_range] at this
     rcases this with hli | ⟨m,hm,hmk,hma⟩
     ·simp [hilt] at hli
     ·cases hom:ops[m]? with
      | none=>rw [hom] at hma;simp at hma
      | some om =>
       rw [hom] at hma
       simp only [Option.map_some,Option.getD_some,Array.any_eq_true',Bool.and_eq_true,beq_iff_eq] at hma
       obtain ⟨e,he,hb,hei⟩:=hma
       rcases hmk with hmk | ⟨hmi,hml⟩
       ·have:m=j:=by simpa using hmk
        subst this
        obtain rfl:=Option.some.inj (hoj.symm.trans hom)
        exact hnot e he hb hei
       ·have hmi':m≠i:=by simpa using hmi
        rw [getD_set_ne false (Ne.symm hmi')] at hml
        have:=hcd m om hom hml e he hb
        rw [hei,hiun] at this
        cases this
    ·obtain ⟨oj',hoj',h⟩:=hu j (ready_mono hj hji)
     obtain rfl:=Option.some.inj (hoj.symm.trans hoj')
     exact h
   refine ⟨oj,hoj,rest.swap (execOp_put oj (fun cs b=>hsel j oj cs b hoj) a oi.dst v h1) (wanted_put oj a oi.dst v h1) fun u W hW=>?_⟩
   refine ih (listed.setIfInBounds j true) (a.put oj.dst u) W (z13 hcd hj) hfree' (ready_mono hr (Ne.symm hji)) hW.holds
    (hy.of_same (execOp_put oi (fun cs b=>hsel i oi cs b hi) a oj.dst u h3) (wanted_put oi a oj.dst u h3)) ?_
   rw [Array.setIfInBounds_comm _ _ hji,←Act.put_comm a v u h2]
   exact hW
def z3v (md:Region.Mode) (ops:Array Oper):List Nat→Array Bool→Bool
 | [],listed=>(Region.ready md ops listed).isEmpty
 | k::t,listed=>Region.ready md ops listed==[k]&&z3v md ops t (listed.setIfInBounds k true)
inductive Pick where
 | read (i:Nat)
 | one (i:Nat)
 | two (i j:Nat)
def Pick.len:List Pick→Nat
 | []=>0
 | .two _ _::l=>Pick.len l+2
 | _::l=>Pick.len l+1
def plan (md:Region.Mode) (ops:Array Oper) (tl:List Nat):List Pick→Array Bool→Bool
 | [],listed=>(match tl with | []=>true | k::_=>zjv md ops k listed)&&z3v md ops tl listed
 | .read i::l,listed=>(Region.ready md ops listed).contains i&&Region.free md ops listed i&&plan md ops tl l (listed.setIfInBounds i true)
 | .one i::l,listed=>Region.ready md ops listed==[i]&&plan md ops tl l (listed.setIfInBounds i true)
 | .two i j::l,listed=>i != j&&Region.ready md ops listed==[i,j]&&Region.ready md ops (listed.setIfInBounds i true)==[j]&&Region.ready md ops (listed.setIfInBounds j true)==[i]&&plan md ops tl l ((listed.setIfInBounds i true).setIfInBounds j true)
def z2g (P:Program) (ops:Array Oper) (Q:Exit→Act→World→Prop):List Nat→Act→World→Prop
 | [],a,w=>Q .normal a w
 | i::l,a,w=>∃ o,ops[i]? = some o∧Does P ops o a w (z2g P ops Q l)
def LaysR (P:Program) (ops:Array Oper) (o:Oper) (ob:Obj):Prop :=
 ∀ (a:Act) (W:World),Region.wanted o (yielded ops a.tmps)=true∧(execOp a.eval o).run P W = .ok (.value (.pointer (some ⟨W.heap.size,0,none⟩))) (W.alloc ob)
def z7Y (P:Program) (ops:Array Oper) (Q:Exit→Act→World→Prop) (S:World→Prop) (tl:List Nat):List Pick→Act→World→Prop
 | [],a,w=>z2g P ops Q tl a w
 | .read i::l,a,w=>∃ o v,ops[i]? = some o∧Reads P ops S o v a∧z7Y P ops Q S tl l (a.put o.dst v) w
 | .one i::l,a,w=>∃ o,ops[i]? = some o∧Does P ops o a w fun a' w'=>S w'∧z7Y P ops Q S tl l a' w'
 | .two i j::l,a,w=>∃ oi oj ob,ops[i]? = some oi∧ops[j]? = some oj∧LaysR P ops oi ob∧LaysR P ops oj ob∧S (w.alloc ob)∧S ((w.alloc ob).alloc ob)∧(∀ d,oi.dst=some d→oj.dst≠some d) ∧
   ∀ p q,(p=w.heap.size∧q=w.heap.size+1)∨(p=w.heap.size+1∧q=w.heap.size) →
    z7Y P ops Q S tl l ((a.put oi.dst (.pointer (some ⟨p,0,none⟩))).put oj.dst (.pointer (some ⟨q,0,none⟩))) ((w.alloc ob).alloc ob)
theorem LaysR.does {o:Oper} {ob:Obj} (h:LaysR P ops o ob) {a:Act} {w:World} {K:Act→World→Prop} (hk:K (a.put o.dst (.pointer (some ⟨w.heap.size,0,none⟩))) (w.alloc ob)):Does P ops o a w K :=
 .inl ⟨(h a w).1,by rw [(h a w).2];exact hk⟩
theorem z3L:∀ (tl:List Nat) (listed:Array Bool) (a:Act) (w:World),z3v md ops tl listed=true→z2g P ops Q tl a w→zq2 P md ops Q tl.length listed a w
 | [],listed,a,w,hp,h=>⟨by simpa [z3v] using hp,h⟩
 | k::t,listed,a,w,hp,h=>by
  simp only [z3v,Bool.and_eq_true,beq_iff_eq] at hp
  obtain ⟨o,ho,h⟩:=h
  refine ⟨fun hr=>(by rw [hp.1] at hr;cases hr),fun i hi=>?_⟩
  rw [hp.1] at hi
  simp at hi
  subst hi
  exact ⟨o,ho,h.mono fun a' w' h'=>z3L t _ a' w' hp.2 h'⟩
theorem z2k (hsel:Region.noSelect ops=true) (tl:List Nat):∀ (l:List Pick) (listed:Array Bool) (a:Act) (w:World),plan md ops tl l listed=true→z3j md ops listed→S w →
  z7Y P ops Q S tl l a w→anyS P md ops Q S (Pick.len l+tl.length) listed a w
 | [],listed,a,w,hp,_,hS,h=>by
  simp only [plan,Bool.and_eq_true] at hp
  cases tl with
  | nil=>exact ⟨hS,by simpa [z3v] using hp.2,h⟩
  | cons k t =>
   have hp2:=hp.2
   simp only [z3v,Bool.and_eq_true,beq_iff_eq] at hp2
   rw [Pick.len,Nat.zero_add,List.length_cons]
   exact ⟨hS,.inl ⟨k,hp2.1,hp.1,z3L (k::t) listed a w hp.2 h⟩⟩
 | .read i::l,listed,a,w,hp,hcd,hS,h=>by
  simp only [plan,Bool.and_eq_true] at hp
  obtain ⟨o,v,ho,hy,hn⟩:=h
  have hr:i∈Region.ready md ops listed:=by simpa using hp.1.1
  have:=z2k hsel tl l _ _ w hp.2 (z13 hcd hr) hS hn
  have h2:=zgu ho (Region.noSelect_spec hsel) _ listed a w hcd (Region.free_spec ho hp.1.2) hr hS hy this
  rw [show Pick.len (.read i::l)+tl.length=Pick.len l+tl.length+1 by simp [Pick.len];omega]
  exact h2
 | .one i::l,listed,a,w,hp,hcd,hS,h=>by
  simp only [plan,Bool.and_eq_true,beq_iff_eq] at hp
  obtain ⟨o,ho,h⟩:=h
  rw [show Pick.len (.one i::l)+tl.length=Pick.len l+tl.length+1 by simp [Pick.len];omega]
  refine ⟨hS,.inr ⟨by rw [hp.1];simp,fun j hj=>?_⟩⟩
  have hj':=hj
  rw [hp.1] at hj'
  simp at hj'
  subst hj'
  exact ⟨o,ho,h.mono fun a' w' h'=>z2k hsel tl l _ a' w' hp.2 (z13 hcd hj) h'.1 h'.2⟩
 | .two i j::l,listed,a,w,hp,hcd,hS,h=>by
  simp only [plan,Bool.and_eq_true,beq_iff_eq,bne_iff_ne] at hp
  obtain ⟨⟨⟨⟨hij,hr⟩,hri⟩,hrj⟩,hp⟩:=hp
  obtain ⟨oi,oj,ob,hoi,hoj,li,lj,S1,S2,hd,h⟩:=h
  have mi:i∈Region.ready md ops listed:=by rw [hr];simp
  have mj:j∈Region.ready md ops listed:=by rw [hr];simp
  have mj':j∈Region.ready md ops (listed.setIfInBounds i true):=by rw [hri];simp
  have mi':i∈Region.ready md ops (listed.setIfInBounds j true):=by rw [hrj];simp
  rw [show Pick.len (Pick.two i j::l)+tl.length=Pick.len l+tl.length+1+1 by simp [Pick.len];omega]
  have last:∀ (a':Act) (w':World),S w'→z7Y P ops Q S tl l a' w'→anyS P md ops Q S (Pick.len l+tl.length) ((listed.setIfInBounds i true).setIfInBounds j true) a' w':=fun a' w' hs hw =>
   z2k hsel tl l _ a' w' hp (z13 (z13 hcd mi) mj') hs hw
  refine ⟨hS,.inr ⟨by rw [hr];simp,fun k hk=>?_⟩⟩
  rw [hr] at hk
  simp only [List.mem_cons,List.not_mem_nil,or_false] at hk
  rcases hk with rfl | rfl
  ·refine ⟨oi,hoi,li.does ⟨S1,.inr ⟨by rw [hri];simp,fun k' hk'=>?_⟩⟩⟩
   rw [hri] at hk'
   simp at hk'
   subst hk'
   refine ⟨oj,hoj,lj.does ?_⟩
   rw [World.size_alloc]
   exact last _ _ S2 (h _ _ (.inl ⟨rfl,rfl⟩))
  ·refine ⟨oj,hoj,lj.does ⟨S1,.inr ⟨by rw [hrj];simp,fun k' hk'=>?_⟩⟩⟩
   rw [hrj] at hk'
   simp at hk'
   subst hk'
   refine ⟨oi,hoi,li.does ?_⟩
   rw [World.size_alloc,Array.setIfInBounds_comm _ _ (Ne.symm hij)]
   have:=last _ _ S2 (h _ _ (.inr ⟨rfl,rfl⟩))
   rwa [Act.put_comm a _ _ hd] at this
theorem z99 (n:Nat):z3j md ops (Array.replicate n false):=by
 intro m om hom h
 rcases Nat.lt_or_ge m n with h' | h'
 ·simp [h'] at h
 ·simp [h'] at h
def zpa (ops:Array Oper) (l:List Pick) (tl:List Nat):Bool:=Pick.len l+tl.length==ops.size&&plan .any ops tl l (Array.replicate ops.size false)
theorem zcU {id:Nat} {a:Act} {w:World} (S:World→Prop) (l:List Pick) (tl:List Nat) (hm:P.follows .mixedOrders=true) (hsel:Region.noSelect ops=true)
  (ht:zpa ops l tl=true) (hS:S w.drew) (h:z7Y P ops Q S tl l a w.drew):(Code.region id ops true).wp P Q a w:=by
 simp only [zpa,Bool.and_eq_true,beq_iff_eq] at ht
 refine wp_region_any hm (z5s _ _ _ _ (z7m (S:=S) _ _ _ _ ?_))
 rw [←ht.1]
 have:=z2k (md:=.any) hsel tl l (Array.replicate ops.size false) a w.drew ht.2 (z99 _) hS h
 rwa [ht.1] at this ⊢
variable {tl:List Nat} {l:List Pick} {a:Act} {w:World} {i:Nat} {o:Oper}
theorem z1h {v:Value} (ho:ops[i]? = some o) (hw:Region.wanted o (yielded ops a.tmps)=true) (hv:∀ W,S W→(execOp a.eval o).run P W = .ok (.value v) W) (h:z7Y P ops Q S tl l (a.put o.dst v) w):z7Y P ops Q S tl (.read i::l) a w :=
 ⟨o,v,ho,.inl ⟨hw,fun W hW=>by rw [hv W hW];exact ⟨rfl,rfl⟩⟩,h⟩
theorem z9s {v:Value} {f:FuncId} {args:Array Value} (ho:ops[i]? = some o) (hw:Region.wanted o (yielded ops a.tmps)=true) (hr:∀ W,S W→(execOp a.eval o).run P W = .ok (.enter f args) W)
  (hc:∀ W,S W→Calls P f args W fun e w'=>e = .returned v∧w'=W) (h:z7Y P ops Q S tl l (a.put o.dst v) w):z7Y P ops Q S tl (.read i::l) a w :=
 ⟨o,v,ho,.inl ⟨hw,fun W hW=>by rw [hr W hW];exact hc W hW⟩,h⟩
theorem zgO (h:z2g P ops Q tl a w):z7Y P ops Q S tl [] a w:=h
theorem zbl (h:Q .normal a w):z2g P ops Q [] a w:=h
theorem z4R {v:Value} {w1:World} (ho:ops[i]? = some o) (hw:Region.wanted o (yielded ops a.tmps)=true) (hr:(execOp a.eval o).run P w = .ok (.value v) w1)
  (h:z2g P ops Q tl (a.put o.dst v) w1):z2g P ops Q (i::tl) a w :=
 ⟨o,ho,.inl ⟨hw,by rw [hr];exact h⟩⟩
theorem za5 {f:FuncId} {args:Array Value} {w1:World} (ho:ops[i]? = some o) (hw:Region.wanted o (yielded ops a.tmps)=true) (hr:(execOp a.eval o).run P w = .ok (.enter f args) w1)
  (hc:Calls P f args w1 fun e w'=>∃ v,e = .returned v∧z2g P ops Q tl (a.put o.dst v) w'):z2g P ops Q (i::tl) a w :=
 ⟨o,ho,.inl ⟨hw,by rw [hr];exact hc⟩⟩
end
end
end Go.Proofs.YtdpipdniklognaaGreat
