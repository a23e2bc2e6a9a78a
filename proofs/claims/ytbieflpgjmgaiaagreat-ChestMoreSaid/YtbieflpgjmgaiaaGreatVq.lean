/- The program's ChestMore returns true for all numbers without an exception and without changing its arguments: a part of the proof. -/
import Derived.Test.YtbieflpgjmgaiaaGreatVe
import Derived.Test.YtbieflpgjmgaiaaGreatVg
import Derived.Test.YtbieflpgjmgaiaaGreatVd
import Derived.WalkKit
set_option linter.all false
/- Openings: pairs of all, partners; the least covers. -/
namespace Go.Proofs.YtbieflpgjmgaiaaGreat.Kuhn
variable {α : Type} [DecidableEq α]
structure KS (α : Type) where
 seen : α → Bool
 of : α → Option α
 to : α → Option α
def upd {β : Type} (f : α → β) (x : α) (y : β) : α → β :=fun z=>if z=x then y else f z
theorem upd_eq {β : Type} {f : α → β} {x : α} {y : β}:upd f x y x=y:=if_pos rfl
theorem upd_ne {β : Type} {f : α → β} {x z : α} {y : β} (h:z≠x):upd f x y z=f z:=if_neg h
def KS.see (σ : KS α) (s : α):KS α :=⟨upd σ.seen s true,σ.of,σ.to⟩
def KS.pair (σ : KS α) (f s : α):KS α :=⟨σ.seen,upd σ.of s (some f),upd σ.to f (some s)⟩
def loopK (rec : α → KS α → Bool×KS α) (f : α):List α → KS α → Bool×KS α
 | [],σ =>(false,σ)
 | s::l,σ =>
  if σ.seen s=true then loopK rec f l σ
  else match σ.of s with
   | none=>(true,(σ.see s).pair f s)
   | some p=>match rec p (σ.see s) with
    | (true,τ)=>(true,τ.pair f s)
    | (false,τ)=>loopK rec f l τ
def tryK (adj : α → List α):Nat→α → KS α → Bool×KS α
 | 0,_,σ =>(false,σ)
 | k+1,f,σ =>loopK (tryK adj k) f (adj f) σ
def left (B:List α) (σ : KS α):Nat:=(B.filter fun s=>!σ.seen s).length
def Closed (adj : α → List α) (of : α → Option α) (S : α → Prop):Prop:=∀ s,S s→∃ p,of s=some p∧∀ x,x∈adj p→S x
structure Fails (adj : α → List α) (l:List α) (σ τ : KS α):Prop where
 of : τ.of = σ.of
 to : τ.to = σ.to
 grow:∀ s,σ.seen s=true→τ.seen s=true
 all:∀ s,s∈l→τ.seen s=true
 new:∀ s,τ.seen s=true→σ.seen s=false→∃ p,σ.of s=some p∧∀ x,x∈adj p→τ.seen x=true
structure Wins (adj : α → List α) (f : α) (σ τ : KS α):Prop where
 old:∀ s,σ.seen s=true→τ.of s = σ.of s
 inj:∀ s t g,σ.seen s=false→σ.seen t=false→τ.of s=some g→τ.of t=some g→s=t
 ran:∀ g,(∃ s,σ.seen s=false∧τ.of s=some g) ↔ (g=f∨∃ s,σ.seen s=false∧σ.of s=some g)
 keep:∀ s,σ.of s≠none→τ.of s≠none
 one:∃ s,σ.of s=none∧τ.of s≠none∧∀ t,t≠s→(τ.of t=none ↔ σ.of t=none)
 adj:(∀ s g,σ.of s=some g→s∈adj g)→∀ s g,τ.of s=some g→s∈adj g
structure Ready (f : α) (σ : KS α):Prop where
 free:∀ s,σ.seen s=false→σ.of s≠some f
 inj:∀ s t g,σ.seen s=false→σ.seen t=false→σ.of s=some g→σ.of t=some g→s=t
theorem see_seen {σ : KS α} {s t : α}:(σ.see s).seen t=true ↔ t=s∨σ.seen t=true:=by
 unfold KS.see upd
 by_cases h:t=s
 ·simp [h]
 ·simp [h]
theorem see_not {σ : KS α} {s t : α}:(σ.see s).seen t=false ↔ t≠s∧σ.seen t=false:=by
 unfold KS.see upd
 by_cases h:t=s
 ·simp [h]
 ·simp [h]
theorem bool_dec (b:Bool):b=true∨b=false:=by cases b <;> simp
theorem loopK_ok {adj : α → List α} {rec : α → KS α → Bool×KS α} {f : α} {B:List α} {k:Nat}
  (hrec:∀ p σ,left B σ ≤ k→(∀ x,x∈adj p→x∈B)→Ready p σ → ((rec p σ).1=false→Fails adj (adj p) σ (rec p σ).2)∧((rec p σ).1=true→Wins adj p σ (rec p σ).2))
  (hAdj:∀ p x,x∈adj p→x∈B) :
  ∀ (l:List α) (σ : KS α),(∀ x,x∈l→x∈B∧x∈adj f)→left B σ ≤ k+1→Ready f σ →
   ((loopK rec f l σ).1=false→Fails adj l σ (loopK rec f l σ).2)∧((loopK rec f l σ).1=true→Wins adj f σ (loopK rec f l σ).2):=by
 intro l
 induction l with
 | nil =>
  intro σ _ _ _
  refine ⟨fun _=>⟨rfl,rfl,fun _ h=>h,fun _ h=>(nomatch h),fun s h1 h2=>?_⟩,fun h=>(nomatch h)⟩
  have h1 : σ.seen s=true:=h1
  rw [h1] at h2;cases h2
 | cons s l ih =>
  intro σ hl hk hR
  have hl':∀ x,x∈l→x∈B∧x∈adj f:=fun x hx=>hl x (List.mem_cons_of_mem _ hx)
  rcases bool_dec (σ.seen s) with hs | hs
  ·have e:loopK rec f (s::l) σ = loopK rec f l σ :=by simp [loopK,hs]
   rw [e]
   obtain ⟨h1,h2⟩:=ih σ hl' hk hR
   refine ⟨fun h=>?_,h2⟩
   have F:=h1 h
   refine ⟨F.of,F.to,F.grow,fun x hx=>?_,F.new⟩
   rcases List.mem_cons.1 hx with rfl | hx
   ·exact F.grow _ hs
   ·exact F.all x hx
  ·have hleft:left B (σ.see s)≤k:=by
    have h1:left B (σ.see s)<left B σ :=by
     unfold left
     have hsB:=(hl s (List.mem_cons_self ..)).1
     clear hl hl' ih hk hR hrec hAdj
     induction B with
     | nil=>exact (nomatch hsB)
     | cons b B ihB =>
      by_cases hb:b=s
      ·subst hb
       have e1:(σ.see b).seen b=true:=see_seen.2 (.inl rfl)
       simp only [List.filter_cons,e1,hs]
       simp
       have:∀ L:List α,(L.filter fun t=>!(σ.see b).seen t).length≤(L.filter fun t=>!σ.seen t).length:=fun L=>by
        induction L with
        | nil=>simp
        | cons c L ihL =>
         simp only [List.filter_cons]
         rcases bool_dec (σ.seen c) with hc | hc
         ·have:(σ.see b).seen c=true:=see_seen.2 (.inr hc)
          simp [hc,this];exact ihL
         ·rcases bool_dec ((σ.see b).seen c) with hd | hd
          ·simp [hc,hd];omega
          ·simp [hc,hd];exact ihL
       have:=this B
       omega
      ·have hsB':s∈B:=by
        rcases List.mem_cons.1 hsB with h | h
        ·exact absurd h.symm hb
        ·exact h
       have:=ihB hsB'
       have e1:(σ.see s).seen b = σ.seen b:=by
        show upd σ.seen s true b=_
        exact upd_ne hb
       simp only [List.filter_cons,e1]
       rcases bool_dec (σ.seen b) with hc | hc
       ·simp [hc];exact this
       ·simp [hc];exact this
    omega
   cases ho : σ.of s with
   | none =>
    have e:loopK rec f (s::l) σ = (true,(σ.see s).pair f s):=by simp [loopK,hs,ho]
    rw [e]
    refine ⟨fun h=>(nomatch h),fun _=>?_⟩
    have hof:∀ t,((σ.see s).pair f s).of t=if t=s then some f else σ.of t:=fun t=>rfl
    refine ⟨fun t ht=>?_,fun a b g ha hb h1 h2=>?_,fun g=>⟨?_,?_⟩,fun t ht=>?_,⟨s,ho,?_,fun t ht=>?_⟩,fun hA t g h=>?_⟩
    ·rw [hof,if_neg (fun e=>by rw [e,hs] at ht;cases ht)]
    ·rw [hof] at h1 h2
     by_cases e1:a=s
     ·by_cases e2:b=s
      ·rw [e1,e2]
      ·rw [if_pos e1] at h1;rw [if_neg e2] at h2
       rw [←Option.some.inj h1] at h2
       exact absurd h2 (hR.free b hb)
     ·by_cases e2:b=s
      ·rw [if_neg e1] at h1;rw [if_pos e2] at h2
       rw [←Option.some.inj h2] at h1
       exact absurd h1 (hR.free a ha)
      ·rw [if_neg e1] at h1;rw [if_neg e2] at h2
       exact hR.inj a b g ha hb h1 h2
    ·rintro ⟨a,ha,h1⟩
     rw [hof] at h1
     by_cases e1:a=s
     ·rw [if_pos e1] at h1;exact .inl (Option.some.inj h1).symm
     ·rw [if_neg e1] at h1;exact .inr ⟨a,ha,h1⟩
    ·rintro (rfl | ⟨a,ha,h1⟩)
     ·exact ⟨s,hs,by rw [hof,if_pos rfl]⟩
     ·refine ⟨a,ha,?_⟩
      rw [hof,if_neg (fun e=>by rw [e,ho] at h1;cases h1)];exact h1
    ·rw [hof];split
     ·exact fun h=>nomatch h
     ·exact ht
    ·rw [hof,if_pos rfl];exact fun h=>nomatch h
    ·rw [hof,if_neg ht]
    ·rw [hof] at h
     by_cases e1:t=s
     ·rw [if_pos e1] at h;rw [←Option.some.inj h,e1];exact (hl s (List.mem_cons_self ..)).2
     ·rw [if_neg e1] at h;exact hA t g h
   | some p =>
    have hRp:Ready p (σ.see s):=by
     refine ⟨fun t ht h=>?_,fun a b g ha hb h1 h2=>hR.inj a b g (see_not.1 ha).2 (see_not.1 hb).2 h1 h2⟩
     have ht:=see_not.1 ht
     exact ht.1 (hR.inj t s p ht.2 hs h ho)
    obtain ⟨r1,r2⟩:=hrec p (σ.see s) hleft (hAdj p) hRp
    cases hr:rec p (σ.see s) with
    | mk b τ =>
    rw [hr] at r1 r2
    cases b with
    | true =>
     have e:loopK rec f (s::l) σ = (true,τ.pair f s):=by simp [loopK,hs,ho,hr]
     rw [e]
     refine ⟨fun h=>(nomatch h),fun _=>?_⟩
     have W:=r2 rfl
     have hof:∀ t,(τ.pair f s).of t=if t=s then some f else τ.of t:=fun t=>rfl
     have hfp:f≠p:=fun e=>hR.free s hs (by rw [ho,e])
     refine ⟨fun t ht=>?_,fun a b g ha hb h1 h2=>?_,fun g=>⟨?_,?_⟩,fun t ht=>?_,?_,fun hA t g h=>?_⟩
     ·have hts:t≠s:=fun e=>by rw [e,hs] at ht;cases ht
      rw [hof,if_neg hts,W.old t (see_seen.2 (.inr ht))];rfl
     ·rw [hof] at h1 h2
      have nf:∀ c,c≠s→σ.seen c=false→τ.of c≠some f:=fun c hc hc2 h=>by
       have:=(W.ran f).1 ⟨c,see_not.2 ⟨hc,hc2⟩,h⟩
       rcases this with h | ⟨d,hd,h⟩
       ·exact hfp h
       ·exact hR.free d (see_not.1 hd).2 h
      by_cases e1:a=s
      ·by_cases e2:b=s
       ·rw [e1,e2]
       ·rw [if_pos e1] at h1;rw [if_neg e2] at h2
        rw [←Option.some.inj h1] at h2
        exact absurd h2 (nf b e2 hb)
      ·by_cases e2:b=s
       ·rw [if_neg e1] at h1;rw [if_pos e2] at h2
        rw [←Option.some.inj h2] at h1
        exact absurd h1 (nf a e1 ha)
       ·rw [if_neg e1] at h1;rw [if_neg e2] at h2
        exact W.inj a b g (see_not.2 ⟨e1,ha⟩) (see_not.2 ⟨e2,hb⟩) h1 h2
     ·rintro ⟨a,ha,h1⟩
      rw [hof] at h1
      by_cases e1:a=s
      ·rw [if_pos e1] at h1;exact .inl (Option.some.inj h1).symm
      ·rw [if_neg e1] at h1
       rcases (W.ran g).1 ⟨a,see_not.2 ⟨e1,ha⟩,h1⟩ with h | ⟨d,hd,h⟩
       ·exact .inr ⟨s,hs,by rw [ho,h]⟩
       ·exact .inr ⟨d,(see_not.1 hd).2,h⟩
     ·rintro (rfl | ⟨a,ha,h1⟩)
      ·exact ⟨s,hs,by rw [hof,if_pos rfl]⟩
      ·have:∃ d,(σ.see s).seen d=false∧τ.of d=some g:=(W.ran g).2 (by
        by_cases e1:a=s
        ·rw [e1,ho] at h1;exact .inl (Option.some.inj h1).symm
        ·exact .inr ⟨a,see_not.2 ⟨e1,ha⟩,h1⟩)
       obtain ⟨d,hd,h⟩:=this
       have hd:=see_not.1 hd
       exact ⟨d,hd.2,by rw [hof,if_neg hd.1];exact h⟩
     ·rw [hof];split
      ·exact fun h=>nomatch h
      ·exact W.keep t ht
     ·obtain ⟨u,u1,u2,u3⟩:=W.one
      have hus:u≠s:=fun e=>by
       have u1 : σ.of u=none:=u1
       rw [e,ho] at u1;cases u1
      refine ⟨u,u1,by rw [hof,if_neg hus];exact u2,fun t ht=>?_⟩
      rw [hof]
      by_cases e1:t=s
      ·rw [if_pos e1,e1,ho];simp
      ·rw [if_neg e1];exact u3 t ht
     ·rw [hof] at h
      by_cases e1:t=s
      ·rw [if_pos e1] at h;rw [←Option.some.inj h,e1];exact (hl s (List.mem_cons_self ..)).2
      ·rw [if_neg e1] at h;exact W.adj hA t g h
    | false =>
     have e:loopK rec f (s::l) σ = loopK rec f l τ :=by simp [loopK,hs,ho,hr]
     rw [e]
     have F:=r1 rfl
     have hof : τ.of = σ.of:=F.of
     have hgr:∀ t,σ.seen t=true→τ.seen t=true:=fun t ht=>F.grow t (see_seen.2 (.inr ht))
     have hgn:∀ t,τ.seen t=false→σ.seen t=false:=fun t ht=>by
      rcases bool_dec (σ.seen t) with h | h
      ·rw [hgr t h] at ht;cases ht
      ·exact h
     have hRt:Ready f τ :=⟨fun t ht=>by rw [hof];exact hR.free t (hgn t ht),fun a b g ha hb=>by rw [hof];exact hR.inj a b g (hgn a ha) (hgn b hb)⟩
     have hlt:left B τ ≤ k+1:=by
      have:∀ L:List α,(L.filter fun t=>!τ.seen t).length≤(L.filter fun t=>!(σ.see s).seen t).length:=fun L=>by
       induction L with
       | nil=>simp
       | cons c L ihL =>
        simp only [List.filter_cons]
        rcases bool_dec ((σ.see s).seen c) with hc | hc
        ·have : τ.seen c=true:=F.grow c hc
         simp [hc,this];exact ihL
        ·rcases bool_dec (τ.seen c) with hd | hd
         ·simp [hc,hd];omega
         ·simp [hc,hd];exact ihL
      have:=this B
      unfold left at hleft ⊢
      omega
     obtain ⟨i1,i2⟩:=ih τ hl' hlt hRt
     have hss : τ.seen s=true:=F.grow s (see_seen.2 (.inl rfl))
     refine ⟨fun h=>?_,fun h=>?_⟩
     ·have G:=i1 h
      refine ⟨G.of.trans hof,G.to.trans F.to,fun t ht=>G.grow t (hgr t ht),fun t ht=>?_,fun t h1 h2=>?_⟩
      ·rcases List.mem_cons.1 ht with rfl | ht
       ·exact G.grow _ hss
       ·exact G.all t ht
      ·rcases bool_dec (τ.seen t) with h3 | h3
       ·by_cases e1:t=s
        ·exact ⟨p,by rw [e1,ho],fun x hx=>G.grow x (F.all x hx)⟩
        ·obtain ⟨q,q1,q2⟩:=F.new t h3 (see_not.2 ⟨e1,h2⟩)
         exact ⟨q,q1,fun x hx=>G.grow x (q2 x hx)⟩
       ·obtain ⟨q,q1,q2⟩:=G.new t h1 h3
        exact ⟨q,by rw [←hof];exact q1,q2⟩
     ·have W:=i2 h
      refine ⟨fun t ht=>(W.old t (hgr t ht)).trans (congrFun hof t),fun a b g ha hb h1 h2=>?_,fun g=>⟨?_,?_⟩,fun t ht=>W.keep t (by rw [hof];exact ht),?_,fun hA=>W.adj (by rw [hof];exact hA)⟩
      ·rcases bool_dec (τ.seen a) with h3 | h3
       ·rcases bool_dec (τ.seen b) with h4 | h4
        ·rw [W.old a h3,hof] at h1;rw [W.old b h4,hof] at h2
         exact hR.inj a b g ha hb h1 h2
        ·rw [W.old a h3,hof] at h1
         rcases (W.ran g).1 ⟨b,h4,h2⟩ with h | ⟨d,hd,h⟩
         ·rw [h] at h1;exact absurd h1 (hR.free a ha)
         ·rw [hof] at h
          have:=hR.inj a d g ha (hgn d hd) h1 h
          rw [this,hd] at h3;cases h3
       ·rcases bool_dec (τ.seen b) with h4 | h4
        ·rw [W.old b h4,hof] at h2
         rcases (W.ran g).1 ⟨a,h3,h1⟩ with h | ⟨d,hd,h⟩
         ·rw [h] at h2;exact absurd h2 (hR.free b hb)
         ·rw [hof] at h
          have:=hR.inj b d g hb (hgn d hd) h2 h
          rw [this,hd] at h4;cases h4
        ·exact W.inj a b g h3 h4 h1 h2
      ·rintro ⟨a,ha,h1⟩
       rcases bool_dec (τ.seen a) with h3 | h3
       ·rw [W.old a h3,hof] at h1;exact .inr ⟨a,ha,h1⟩
       ·rcases (W.ran g).1 ⟨a,h3,h1⟩ with h | ⟨d,hd,h⟩
        ·exact .inl h
        ·exact .inr ⟨d,hgn d hd,by rw [←hof];exact h⟩
      ·rintro (rfl | ⟨a,ha,h1⟩)
       ·obtain ⟨d,hd,h⟩:=(W.ran g).2 (.inl rfl)
        exact ⟨d,hgn d hd,h⟩
       ·rcases bool_dec (τ.seen a) with h3 | h3
        ·exact ⟨a,ha,by rw [W.old a h3,hof];exact h1⟩
        ·obtain ⟨d,hd,h⟩:=(W.ran g).2 (.inr ⟨a,h3,by rw [hof];exact h1⟩)
         exact ⟨d,hgn d hd,h⟩
      ·obtain ⟨u,u1,u2,u3⟩:=W.one
       rw [hof] at u1 u3
       exact ⟨u,u1,u2,u3⟩
theorem tryK_ok {adj : α → List α} {B:List α} (hAdj:∀ p x,x∈adj p→x∈B):∀ (k:Nat) (f : α) (σ : KS α),left B σ < k→Ready f σ →
  ((tryK adj k f σ).1=false→Fails adj (adj f) σ (tryK adj k f σ).2)∧((tryK adj k f σ).1=true→Wins adj f σ (tryK adj k f σ).2)
 | 0,_,_,h,_=>absurd h (Nat.not_lt_zero _)
 | k+1,f,σ,h,hR=>by
  cases k with
  | zero =>
   -- nothing is left: all neighbours are seen
   have h0:left B σ = 0:=by omega
   have hall:∀ x,x∈B→σ.seen x=true:=fun x hx=>by
    rcases bool_dec (σ.seen x) with h1 | h1
    ·exact h1
    ·have:x∈B.filter fun s=>!σ.seen s:=List.mem_filter.2 ⟨hx,by rw [h1];rfl⟩
     unfold left at h0
     rw [List.length_eq_zero_iff.1 h0] at this
     exact nomatch this
   have key:∀ (rec : α → KS α → Bool×KS α) (l:List α),(∀ x,x∈l→x∈B)→loopK rec f l σ = (false,σ):=fun rec l=>by
    induction l with
    | nil=>intro _;rfl
    | cons s l ih =>
     intro hl
     simp only [loopK,hall s (hl s (List.mem_cons_self ..)),if_true]
     exact ih fun x hx=>hl x (List.mem_cons_of_mem _ hx)
   have e:tryK adj 1 f σ = (false,σ):=key _ _ (hAdj f)
   rw [e]
   refine ⟨fun _=>⟨rfl,rfl,fun _ h=>h,fun x hx=>hall x (hAdj f x hx),fun s h1 h2=>?_⟩,fun h=>nomatch h⟩
   have h1 : σ.seen s=true:=h1
   rw [h1] at h2;cases h2
  | succ k =>
   exact loopK_ok (B:=B) (k:=k) (fun p τ h1 _ h3=>tryK_ok hAdj (k+1) p τ (by omega) h3) hAdj (adj f) σ (fun x hx=>⟨hAdj f x hx,hx⟩) (by omega) hR
theorem loopK_closed {adj : α → List α} {S : α → Prop} {of : α → Option α} (hC:Closed adj of S) {rec : α → KS α → Bool×KS α}
  (hrec:∀ p σ,σ.of=of→(∀ x,x∈adj p→S x)→(rec p σ).1=false∧(rec p σ).2.of=of) {f : α} :
  ∀ (l:List α) (σ : KS α),σ.of=of→(∀ x,x∈l→S x)→(loopK rec f l σ).1=false∧(loopK rec f l σ).2.of=of
 | [],_,h,_=>⟨rfl,h⟩
 | s::l,σ,h,hl=>by
  have hl':∀ x,x∈l→S x:=fun x hx=>hl x (List.mem_cons_of_mem _ hx)
  rcases bool_dec (σ.seen s) with hs | hs
  ·have e:loopK rec f (s::l) σ = loopK rec f l σ :=by simp [loopK,hs]
   rw [e];exact loopK_closed hC hrec l σ h hl'
  ·obtain ⟨p,p1,p2⟩:=hC s (hl s (List.mem_cons_self ..))
   have ho : σ.of s=some p:=by rw [h];exact p1
   obtain ⟨r1,r2⟩:=hrec p (σ.see s) h p2
   have e:loopK rec f (s::l) σ = loopK rec f l (rec p (σ.see s)).2:=by
    cases hr:rec p (σ.see s) with
    | mk b τ =>
    rw [hr] at r1
    have r1:b=false:=r1
    subst r1
    simp [loopK,hs,ho,hr]
   rw [e];exact loopK_closed hC hrec l _ r2 hl'
theorem tryK_closed {adj : α → List α} {S : α → Prop} {of : α → Option α} (hC:Closed adj of S):∀ (k:Nat) (f : α) (σ : KS α),σ.of=of→(∀ x,x∈adj f→S x)→(tryK adj k f σ).1=false∧(tryK adj k f σ).2.of=of
 | 0,_,_,h,_=>⟨rfl,h⟩
 | k+1,f,σ,h,hl=>loopK_closed hC (fun p τ h1 h2=>tryK_closed hC k p τ h1 h2) (adj f) σ h hl
theorem loopK_away {adj : α → List α} {S : α → Prop} {of : α → Option α} (hC:Closed adj of S) {rec : α → KS α → Bool×KS α}
  (hcl:∀ p σ,σ.of=of→(∀ x,x∈adj p→S x)→(rec p σ).1=false)
  (hrec:∀ p σ,σ.of=of→((rec p σ).1=false→(rec p σ).2.of=of)∧∀ s,S s→(rec p σ).2.of s=of s) {f : α} :
  ∀ (l:List α) (σ : KS α),σ.of=of→((loopK rec f l σ).1=false→(loopK rec f l σ).2.of=of)∧∀ s,S s→(loopK rec f l σ).2.of s=of s
 | [],σ,h=>⟨fun _=>h,fun s _=>by rw [←h];rfl⟩
 | s::l,σ,h=>by
  rcases bool_dec (σ.seen s) with hs | hs
  ·have e:loopK rec f (s::l) σ = loopK rec f l σ :=by simp [loopK,hs]
   rw [e];exact loopK_away hC hcl hrec l σ h
  ·cases ho : σ.of s with
   | none =>
    have e:loopK rec f (s::l) σ = (true,(σ.see s).pair f s):=by simp [loopK,hs,ho]
    rw [e]
    refine ⟨fun h=>(nomatch h),fun t ht=>?_⟩
    have:t≠s:=fun e=>by
     obtain ⟨p,p1,_⟩:=hC t ht
     rw [←h,e,ho] at p1;cases p1
    show upd σ.of s (some f) t=of t
    rw [upd_ne this,h]
   | some p =>
    obtain ⟨r1,r2⟩:=hrec p (σ.see s) h
    cases hr:rec p (σ.see s) with
    | mk b τ =>
    rw [hr] at r1 r2
    cases b with
    | false =>
     have e:loopK rec f (s::l) σ = loopK rec f l τ :=by simp [loopK,hs,ho,hr]
     rw [e];exact loopK_away hC hcl hrec l τ (r1 rfl)
    | true =>
     have e:loopK rec f (s::l) σ = (true,τ.pair f s):=by simp [loopK,hs,ho,hr]
     rw [e]
     refine ⟨fun h=>(nomatch h),fun t ht=>?_⟩
     have hts:t≠s:=fun e=>by
      obtain ⟨q,q1,q2⟩:=hC t ht
      rw [←h,e,ho] at q1
      rw [←Option.some.inj q1] at q2
      have:=hcl p (σ.see s) h q2
      rw [hr] at this;cases this
     show upd τ.of s (some f) t=of t
     rw [upd_ne hts];exact r2 t ht
theorem tryK_away {adj : α → List α} {S : α → Prop} {of : α → Option α} (hC:Closed adj of S):∀ (k:Nat) (f : α) (σ : KS α),σ.of=of→((tryK adj k f σ).1=false→(tryK adj k f σ).2.of=of)∧∀ s,S s→(tryK adj k f σ).2.of s=of s
 | 0,_,_,h=>⟨fun _=>h,fun s _=>by rw [←h];rfl⟩
 | k+1,f,σ,h=>loopK_away hC (fun p τ h1 h2=>(tryK_closed hC k p τ h1 h2).1) (fun p τ h1=>tryK_away hC k p τ h1) (adj f) σ h
structure MS (α : Type) where
 of : α → Option α
 to : α → Option α
 n:Nat
def stepM (adj : α → List α) (k:Nat) (μ : MS α) (f : α):MS α :=
 match tryK adj k f ⟨fun _=>false,μ.of,μ.to⟩ with
 | (true,τ)=>⟨τ.of,τ.to,μ.n+1⟩
 | (false,τ)=>⟨τ.of,τ.to,μ.n⟩
def runM (adj : α → List α) (k:Nat) (F:List α):MS α :=F.foldl (stepM adj k) ⟨fun _=>none,fun _=>none,0⟩
structure Inv (adj : α → List α) (B F:List α) (μ : MS α):Prop where
 edge:∀ s g,μ.of s=some g→s∈adj g∧g∈F
 inj:∀ s t g,μ.of s=some g→μ.of t=some g→s=t
 num:(B.filter fun s=>(μ.of s).isSome).length = μ.n
 cut:∃ S : α → Prop,Closed adj μ.of S∧∀ f,f∈F→(∃ s,μ.of s=some f)∨∀ x,x∈adj f→S x
theorem filter_one {B:List α} (hB:B.Nodup) {p q : α → Bool} {u : α} (hu:u∈B) (hp:p u=false) (hq:q u=true) (h:∀ t,t≠u→q t=p t):(B.filter q).length=(B.filter p).length+1:=by
 induction B with
 | nil=>exact nomatch hu
 | cons b B ih =>
  obtain ⟨h1,h2⟩:=List.nodup_cons.1 hB
  by_cases e:b=u
  ·subst e
   have:B.filter q=B.filter p:=List.filter_congr fun t ht=>h t fun e=>h1 (e ▸ ht)
   simp only [List.filter_cons,hp,hq,this];simp
  ·have hu':u∈B:=by
    rcases List.mem_cons.1 hu with h3 | h3
    ·exact absurd h3.symm e
    ·exact h3
   have:=ih h2 hu'
   simp only [List.filter_cons,h b e]
   split
   ·simp [this]
   ·exact this
theorem stepM_ok {adj : α → List α} {B F:List α} {k:Nat} (hAdj:∀ p x,x∈adj p→x∈B) (hB:B.Nodup) (hk:B.length<k) {μ : MS α} {f : α} (hf:f ∉ F) (h:Inv adj B F μ):Inv adj B (F++[f]) (stepM adj k μ f):=by
 have hl:left B ⟨fun _=>false,μ.of,μ.to⟩<k:=Nat.lt_of_le_of_lt (List.length_filter_le _ _) hk
 have hR:Ready f ⟨fun _=>false,μ.of,μ.to⟩:=⟨fun s _ e=>hf (h.edge s f e).2,fun s t g _ _=>h.inj s t g⟩
 obtain ⟨r1,r2⟩:=tryK_ok hAdj k f _ hl hR
 obtain ⟨S,c1,c2⟩:=h.cut
 obtain ⟨a1,a2⟩:=tryK_away c1 k f ⟨fun _=>false,μ.of,μ.to⟩ rfl
 unfold stepM
 cases ht:tryK adj k f ⟨fun _=>false,μ.of,μ.to⟩ with
 | mk b τ =>
 rw [ht] at r1 r2 a1 a2
 cases b with
 | false =>
  have Fl:=r1 rfl
  have hof : τ.of = μ.of:=Fl.of
  refine ⟨fun s g e=>?_,fun s t g=>?_,?_,⟨fun s=>S s∨τ.seen s=true,fun s hs=>?_,fun g hg=>?_⟩⟩
  ·have e : τ.of s=some g:=e
   rw [hof] at e
   exact ⟨(h.edge s g e).1,List.mem_append_left _ (h.edge s g e).2⟩
  ·show τ.of s=some g→τ.of t=some g→s=t
   rw [hof];exact h.inj s t g
  ·show (B.filter fun s=>(τ.of s).isSome).length = μ.n
   rw [hof];exact h.num
  ·show ∃ p,τ.of s=some p∧_
   rw [hof]
   rcases hs with hs | hs
   ·obtain ⟨p,p1,p2⟩:=c1 s hs
    exact ⟨p,p1,fun x hx=>.inl (p2 x hx)⟩
   ·obtain ⟨p,p1,p2⟩:=Fl.new s hs rfl
    exact ⟨p,p1,fun x hx=>.inr (p2 x hx)⟩
  ·show (∃ s,τ.of s=some g)∨_
   rw [hof]
   rcases List.mem_append.1 hg with hg | hg
   ·rcases c2 g hg with h3 | h3
    ·exact .inl h3
    ·exact .inr fun x hx=>.inl (h3 x hx)
   ·have:g=f:=by simpa using hg
    subst this
    exact .inr fun x hx=>.inr (Fl.all x hx)
 | true =>
  have W:=r2 rfl
  have hran:∀ g,(∃ s,τ.of s=some g) ↔ (g=f∨∃ s,μ.of s=some g):=fun g=>by
   have:=W.ran g
   constructor
   ·rintro ⟨s,hs⟩
    rcases this.1 ⟨s,rfl,hs⟩ with h | ⟨d,_,h⟩
    ·exact .inl h
    ·exact .inr ⟨d,h⟩
   ·rintro (h | ⟨d,h⟩)
    ·obtain ⟨s,_,hs⟩:=this.2 (.inl h);exact ⟨s,hs⟩
    ·obtain ⟨s,_,hs⟩:=this.2 (.inr ⟨d,rfl,h⟩);exact ⟨s,hs⟩
  refine ⟨fun s g e=>⟨W.adj (fun s g e=>(h.edge s g e).1) s g e,?_⟩,fun s t g=>W.inj s t g rfl rfl,?_,⟨S,fun s hs=>?_,fun g hg=>?_⟩⟩
  ·rcases (hran g).1 ⟨s,e⟩ with h3 | ⟨d,h3⟩
   ·rw [h3];simp
   ·exact List.mem_append_left _ (h.edge d g h3).2
  ·show (B.filter fun s=>(τ.of s).isSome).length = μ.n+1
   rw [←h.num]
   obtain ⟨u,u1,u2,u3⟩:=W.one
   have u1 : μ.of u=none:=u1
   have huB:u∈B:=by
    cases hu : τ.of u with
    | none=>exact absurd hu u2
    | some g=>exact hAdj g u (W.adj (fun s g e=>(h.edge s g e).1) u g hu)
   refine filter_one hB huB (by rw [u1];rfl) ?_ fun t ht=>?_
   ·cases hu : τ.of u with
    | none=>exact absurd hu u2
    | some g=>rfl
   ·have:=u3 t ht
    have this : τ.of t=none ↔ μ.of t=none:=this
    cases h1 : τ.of t with
    | none=>rw [this.1 h1]
    | some x=>cases h2 : μ.of t with
     | none=>rw [this.2 h2] at h1;cases h1
     | some y=>rfl
  ·show ∃ p,τ.of s=some p∧_
   rw [a2 s hs];exact c1 s hs
  ·rcases List.mem_append.1 hg with hg | hg
   ·rcases c2 g hg with h3 | h3
    ·exact .inl ((hran g).2 (.inr h3))
    ·exact .inr h3
   ·have:g=f:=by simpa using hg
    exact .inl ((hran g).2 (.inl this))
theorem runM_ok {adj : α → List α} {B F:List α} {k:Nat} (hAdj:∀ p x,x∈adj p→x∈B) (hB:B.Nodup) (hk:B.length<k) (hF:F.Nodup):Inv adj B F (runM adj k F):=by
 have key:∀ (G D:List α) (μ : MS α),(D++G).Nodup→Inv adj B D μ → Inv adj B (D++G) (G.foldl (stepM adj k) μ):=by
  intro G
  induction G with
  | nil=>intro D μ _ h;rw [List.append_nil];exact h
  | cons g G ih =>
   intro D μ hn h
   have e:D++g::G=(D++[g])++G:=by simp
   rw [e] at hn ⊢
   refine ih (D++[g]) _ hn (stepM_ok hAdj hB hk ?_ h)
   intro hg
   have:=(List.nodup_append.1 (List.nodup_append.1 hn).1).2.2 g hg g (by simp)
   exact this rfl
 refine key F [] _ hF ⟨fun s g e=>(nomatch e),fun s t g e=>(nomatch e),?_,⟨fun _=>False,fun s hs=>hs.elim,fun f hf=>nomatch hf⟩⟩
 show (B.filter fun s=>false).length=0
 simp
def Cover (adj : α → List α) (F C:List α):Prop:=∀ f,f∈F→∀ x,x∈adj f→f∈C∨x∈C
open Classical in
omit [DecidableEq α] in
theorem some_cover {adj : α → List α} {B F:List α} {μ : MS α} (hAdj:∀ p x,x∈adj p→x∈B) (h:Inv adj B F μ):∃ C,Cover adj F C∧C.length = μ.n∧∀ x,x∈C→x∈F∨x∈B:=by
 obtain ⟨S,c1,c2⟩:=h.cut
 refine ⟨(B.filter fun s=>(μ.of s).isSome).map fun s=>if S s then s else (μ.of s).getD s,fun f hf x hx=>?_,by rw [List.length_map];exact h.num,fun x hx=>?_⟩
 ·have hS:(∀ y,y∈adj f→S y)→x∈(B.filter fun s=>(μ.of s).isSome).map fun s=>if S s then s else (μ.of s).getD s:=fun hall=>by
   have hs:=hall x hx
   obtain ⟨p,p1,_⟩:=c1 x hs
   exact List.mem_map.2 ⟨x,List.mem_filter.2 ⟨hAdj f x hx,by rw [p1];rfl⟩,if_pos hs⟩
  rcases c2 f hf with ⟨s,hs⟩ | h3
  ·by_cases h4:S s
   ·obtain ⟨p,p1,p2⟩:=c1 s h4
    rw [hs] at p1
    rw [←Option.some.inj p1] at p2
    exact .inr (hS p2)
   ·refine .inl (List.mem_map.2 ⟨s,List.mem_filter.2 ⟨hAdj f s (h.edge s f hs).1,by rw [hs];rfl⟩,?_⟩)
    show (if S s then s else (μ.of s).getD s)=f
    rw [if_neg h4,hs];rfl
  ·exact .inr (hS h3)
 ·obtain ⟨s,hs,rfl⟩:=List.mem_map.1 hx
  obtain ⟨h1,h2⟩:=List.mem_filter.1 hs
  by_cases h4:S s
  ·rw [if_pos h4];exact .inr h1
  ·rw [if_neg h4]
   cases h5 : μ.of s with
   | none=>rw [h5] at h2;cases h2
   | some g=>exact .inl (h.edge s g h5).2
theorem nodup_le {L D:List α} (h:L.Nodup) (hs:∀ x,x∈L→x∈D):L.length≤D.length:=by
 induction L generalizing D with
 | nil=>exact Nat.zero_le _
 | cons a L ih =>
  obtain ⟨h1,h2⟩:=List.nodup_cons.1 h
  have:=ih (D:=D.erase a) h2 fun x hx=>(List.mem_erase_of_ne (show x≠a from fun e=>h1 (by rw [←e];exact hx))).2 (hs x (List.mem_cons_of_mem _ hx))
  have ha:=hs a (List.mem_cons_self ..)
  rw [List.length_erase_of_mem ha] at this
  have:0<D.length:=List.length_pos_of_mem ha
  simp only [List.length_cons];omega
omit [DecidableEq α] in
theorem nodup_map {β : Type} {f : α → β}:∀ {L:List α},L.Nodup→(∀ a b,a∈L→b∈L→f a=f b→a=b)→(L.map f).Nodup
 | [],_,_=>List.nodup_nil
 | a::L,h,hi=>by
  obtain ⟨h1,h2⟩:=List.nodup_cons.1 h
  refine List.nodup_cons.2 ⟨fun hm=>?_,nodup_map h2 fun x y hx hy=>hi x y (List.mem_cons_of_mem _ hx) (List.mem_cons_of_mem _ hy)⟩
  obtain ⟨b,hb,e⟩:=List.mem_map.1 hm
  have:=hi b a (List.mem_cons_of_mem _ hb) (List.mem_cons_self ..) e
  exact h1 (this ▸ hb)
open Classical in
theorem no_less {adj : α → List α} {B F:List α} {μ : MS α} (hB:B.Nodup) (hd:∀ g s,g∈F→s∈B→g≠s) (h:Inv adj B F μ) {D:List α} (hD:Cover adj F D) : μ.n≤D.length:=by
 rw [←h.num]
 have hM:(B.filter fun s=>(μ.of s).isSome).Nodup:=hB.filter _
 have hm:∀ s,s∈(B.filter fun s=>(μ.of s).isSome)→s∈B∧∃ g,μ.of s=some g:=fun s hs=>by
  obtain ⟨h1,h2⟩:=List.mem_filter.1 hs
  refine ⟨h1,?_⟩
  cases h5 : μ.of s with
  | none=>rw [h5] at h2;cases h2
  | some g=>exact ⟨g,rfl⟩
 have key:=nodup_le (L:=(B.filter fun s=>(μ.of s).isSome).map fun s=>if s∈D then s else (μ.of s).getD s) (D:=D) (nodup_map hM fun a b ha hb e=>?_) fun x hx=>?_
 ·rw [List.length_map] at key;exact key
 ·obtain ⟨a1,g,a2⟩:=hm a ha
  obtain ⟨b1,g',b2⟩:=hm b hb
  rw [a2,b2] at e
  simp only [Option.getD_some] at e
  by_cases h3:a∈D
  ·by_cases h4:b∈D
   ·rw [if_pos h3,if_pos h4] at e;exact e
   ·rw [if_pos h3,if_neg h4] at e
    exact absurd e.symm (hd g' a (h.edge b g' b2).2 a1)
  ·by_cases h4:b∈D
   ·rw [if_neg h3,if_pos h4] at e
    exact absurd e (hd g b (h.edge a g a2).2 b1)
   ·rw [if_neg h3,if_neg h4] at e
    rw [e] at a2
    exact h.inj a b g' a2 b2
 ·obtain ⟨s,hs,rfl⟩:=List.mem_map.1 hx
  obtain ⟨s1,g,s2⟩:=hm s hs
  by_cases h3:s∈D
  ·rw [if_pos h3];exact h3
  ·rw [if_neg h3,s2]
   obtain ⟨e1,e2⟩:=h.edge s g s2
   rcases hD g e2 s e1 with h4 | h4
   ·exact h4
   ·exact absurd h4 h3
end Go.Proofs.YtbieflpgjmgaiaaGreat.Kuhn
/- The least covers. -/
namespace Go.Proofs.YtbieflpgjmgaiaaGreat.Kuhn
variable {α : Type} [DecidableEq α]
theorem nodup_le' {L D:List α} (h:L.Nodup) (hs:∀ x,x∈L→x∈D):L.length≤D.length:=by
 induction L generalizing D with
 | nil=>exact Nat.zero_le _
 | cons a L ih =>
  obtain ⟨h1,h2⟩:=List.nodup_cons.1 h
  have:=ih (D:=D.erase a) h2 fun x hx=>(List.mem_erase_of_ne (show x≠a from fun e=>h1 (by rw [←e];exact hx))).2 (hs x (List.mem_cons_of_mem _ hx))
  have ha:=hs a (List.mem_cons_self ..)
  rw [List.length_erase_of_mem ha] at this
  have:0<D.length:=List.length_pos_of_mem ha
  simp only [List.length_cons];omega
def Cov (E : α → α → Prop) (C:List α):Prop:=∀ f x,E f x→f∈C∨x∈C
structure Low (E : α → α → Prop) (n:Nat):Prop where
 some:∃ C,Cov E C∧C.length=n
 all:∀ C,Cov E C→n≤C.length
omit [DecidableEq α] in
theorem Low.uniq {E : α → α → Prop} {n m:Nat} (h:Low E n) (k:Low E m):n=m:=by
 obtain ⟨C,c1,c2⟩:=h.some
 obtain ⟨D,d1,d2⟩:=k.some
 have:=h.all D d1
 have:=k.all C c1
 omega
omit [DecidableEq α] in
theorem Low.congr {E E' : α → α → Prop} {n:Nat} (h:Low E n) (e:∀ f x,E f x ↔ E' f x):Low E' n:=by
 have:E=E':=funext fun f=>funext fun x=>propext (e f x)
 exact this ▸ h
def less (E : α → α → Prop) (X:List α) : α → α → Prop:=fun f x=>E f x∧f ∉ X∧x ∉ X
omit [DecidableEq α] in
theorem filter_split {p : α → Bool}:∀ l:List α,(l.filter p).length+(l.filter fun x=>!p x).length=l.length
 | []=>rfl
 | a::l=>by
  have:=filter_split (p:=p) l
  simp only [List.filter_cons,List.length_cons]
  cases p a <;> simp <;> omega
theorem low_less {E : α → α → Prop} {n m:Nat} {X:List α} (h:Low E n) (k:Low (less E X) m) (hX:X.Nodup):n≤m+X.length∧(m+X.length=n ↔ ∃ C,Cov E C∧C.length=n∧∀ x,x∈X→x∈C):=by
 have up:∀ C,Cov (less E X) C→Cov E (X++C):=fun C hC f x hE=>by
  by_cases h1:f∈X
  ·exact .inl (List.mem_append_left _ h1)
  ·by_cases h2:x∈X
   ·exact .inr (List.mem_append_left _ h2)
   ·rcases hC f x ⟨hE,h1,h2⟩ with h3 | h3
    ·exact .inl (List.mem_append_right _ h3)
    ·exact .inr (List.mem_append_right _ h3)
 obtain ⟨C,c1,c2⟩:=k.some
 have hn:n≤m+X.length:=by
  have:=h.all _ (up C c1)
  rw [List.length_append] at this;omega
 refine ⟨hn,fun e=>⟨X++C,up C c1,by rw [List.length_append];omega,fun x hx=>List.mem_append_left _ hx⟩,?_⟩
 rintro ⟨D,d1,d2,d3⟩
 have h1:Cov (less E X) (D.filter fun x=>!decide (x∈X)):=fun f x hE=>by
  rcases d1 f x hE.1 with h4 | h4
  ·exact .inl (List.mem_filter.2 ⟨h4,by rw [decide_eq_false hE.2.1];rfl⟩)
  ·exact .inr (List.mem_filter.2 ⟨h4,by rw [decide_eq_false hE.2.2];rfl⟩)
 have h2:=k.all _ h1
 have h3:=filter_split (p:=fun x=>decide (x∈X)) D
 have h4:X.length≤(D.filter fun x=>decide (x∈X)).length:=nodup_le' hX fun x hx=>List.mem_filter.2 ⟨d3 x hx,by rw [decide_eq_true hx]⟩
 omega
theorem low_near {E : α → α → Prop} {n m:Nat} {s : α} {N:List α} (h:Low E n) (k:Low (less E N) m) (hN:N.Nodup) (hn:∀ x,x∈N ↔ E s x∨E x s) (hs:s ∉ N):m+N.length=n ↔ ∃ C,Cov E C∧C.length=n∧s ∉ C:=by
 rw [(low_less h k hN).2]
 constructor
 ·rintro ⟨C,c1,c2,c3⟩
  refine ⟨C,c1,c2,fun hC=>?_⟩
  have:Cov E (C.filter fun x=>!decide (x=s)):=fun f x hE=>by
   by_cases h1:f=s
   ·subst h1
    have hx:=(hn x).2 (.inl hE)
    exact .inr (List.mem_filter.2 ⟨c3 x hx,by rw [decide_eq_false (show ¬ x=f from fun e=>hs (by rw [←e];exact hx))];rfl⟩)
   ·by_cases h2:x=s
    ·subst h2
     have hx:=(hn f).2 (.inr hE)
     exact .inl (List.mem_filter.2 ⟨c3 f hx,by rw [decide_eq_false h1];rfl⟩)
    ·rcases c1 f x hE with h3 | h3
     ·exact .inl (List.mem_filter.2 ⟨h3,by rw [decide_eq_false h1];rfl⟩)
     ·exact .inr (List.mem_filter.2 ⟨h3,by rw [decide_eq_false h2];rfl⟩)
  have h1:=h.all _ this
  have h2:=filter_split (p:=fun x=>decide (x=s)) C
  have h3:0<(C.filter fun x=>decide (x=s)).length:=List.length_pos_of_mem (List.mem_filter.2 ⟨hC,by simp⟩)
  omega
 ·rintro ⟨C,c1,c2,c3⟩
  refine ⟨C,c1,c2,fun x hx=>?_⟩
  rcases (hn x).1 hx with hE | hE
  ·rcases c1 s x hE with h1 | h1
   ·exact absurd h1 c3
   ·exact h1
  ·rcases c1 x s hE with h1 | h1
   ·exact h1
   ·exact absurd h1 c3
theorem low_or {E : α → α → Prop} {n:Nat} (h:Low E n) (s : α):(∃ C,Cov E C∧C.length=n∧s∈C)∨∃ C,Cov E C∧C.length=n∧s ∉ C:=by
 obtain ⟨C,c1,c2⟩:=h.some
 by_cases h1:s∈C
 ·exact .inl ⟨C,c1,c2,h1⟩
 ·exact .inr ⟨C,c1,c2,h1⟩
end Go.Proofs.YtbieflpgjmgaiaaGreat.Kuhn
/- Openings, in plain words: what is valid, what contradicts what, how many are false at least. -/
namespace Go.Proofs.YtbieflpgjmgaiaaGreat
open Kuhn
structure Opn where
 source:Int
 register:Int
 day:Int
 through:Int
 lawful:Int
 inn:List Int
 inB:Bool
 out:List Int
 outB:Bool
 known:Int
 until_:Int
instance:Inhabited Opn:=⟨⟨0,0,0,0,0,[],true,[],true,0,0⟩⟩
def wth (n lo hi:Int):Bool:=decide (lo≤n)&&decide (n≤hi)
theorem wth_iff {n lo hi:Int}:wth n lo hi=true ↔ lo≤n∧n≤hi:=by
 unfold wth;rw [Bool.and_eq_true,decide_eq_true_iff,decide_eq_true_iff]
theorem getD_get {α : Type} {l:List α} {k:Nat} {d : α} (h:k<l.length):l.getD k d=l[k]:=by
 rw [List.getD_eq_getElem?_getD,List.getElem?_eq_getElem h];rfl
theorem getD_mem {α : Type} {l:List α} {k:Nat} {d : α} (h:k<l.length):l.getD k d∈l:=by
 rw [getD_get h];exact List.getElem_mem h
theorem mem_getD {α : Type} {l:List α} {x d : α} (h:x∈l):∃ k,k<l.length∧l.getD k d=x:=by
 obtain ⟨k,hk,e⟩:=List.mem_iff_getElem.1 h
 exact ⟨k,hk,by rw [getD_get hk];exact e⟩
def allB (p:Nat→Bool) (n:Nat):Bool:=(List.range n).all p
theorem allB_iff {p:Nat→Bool} {n:Nat}:allB p n=true ↔ ∀ k,k<n→p k=true:=by
 unfold allB;rw [List.all_eq_true]
 exact ⟨fun h k hk=>h k (List.mem_range.2 hk),fun h k hk=>h k (List.mem_range.1 hk)⟩
theorem allB_not {p:Nat→Bool} {n k:Nat} (hk:k<n) (h:p k=false):allB p n=false:=by
 rw [←Bool.not_eq_true]
 intro h1
 rw [allB_iff.1 h1 k hk] at h;cases h
def hasI (l:List Int) (n:Int):Bool:=l.any fun y=>n==y
theorem hasI_iff {l:List Int} {n:Int}:hasI l n=true ↔ n∈l:=by
 unfold hasI;rw [List.any_eq_true]
 exact ⟨fun ⟨y,h1,h2⟩=>by rw [show n=y by simpa using h2];exact h1,fun h=>⟨n,h,by simp⟩⟩
def comI (a b:List Int):Bool:=a.any fun n=>hasI b n
theorem comI_iff {a b:List Int}:comI a b=true ↔ ∃ n,n∈a∧n∈b:=by
 unfold comI;rw [List.any_eq_true]
 exact ⟨fun ⟨y,h1,h2⟩=>⟨y,h1,hasI_iff.1 h2⟩,fun ⟨y,h1,h2⟩=>⟨y,h1,hasI_iff.2 h2⟩⟩
theorem comI_comm (a b:List Int):comI a b=comI b a:=by
 rw [Bool.eq_iff_iff,comI_iff,comI_iff]
 exact ⟨fun ⟨n,h1,h2⟩=>⟨n,h2,h1⟩,fun ⟨n,h1,h2⟩=>⟨n,h2,h1⟩⟩
def nameB (l:List Int) (k:Nat):Bool:=wth (l.getD k 0) 1 999&&(Nat.beq k 0||decide (l.getD (k - 1) 0<l.getD k 0))
def namedB (l:List Int):Bool:=allB (nameB l) l.length&&decide (l.length≤8)
structure OkO (o:Opn):Prop where
 source:wth o.source 1 99999=true
 register:wth o.register 1 2=true
 day:0≤o.day∧o.day≤o.through∧o.through≤100000
 lawful:wth o.lawful 0 2=true
 inn:namedB o.inn=true
 out:namedB o.out=true
 com:comI o.inn o.out=false
 known:wth o.known 0 100000=true
 until_:o.until_≠0→wth o.until_ (o.known+1) 100000=true
open Classical in
noncomputable def ckO (o:Opn):Int:=if OkO o then 0 else 60
def meetB (a b:Opn):Bool:=decide (a.day≤b.through)&&decide (b.day≤a.through)
def everB (a b:Opn):Bool:=(a.until_==0||decide (b.known<a.until_))&&(b.until_==0||decide (a.known<b.until_))
def hit (a b:Opn):Bool:=a.register==b.register&&(meetB a b&&everB a b)
def nth (l:List Opn) (k:Nat):Opn:=l.getD k default
structure Reg (l:List Opn):Prop where
 len:l.length≤60
 ok:∀ i,i<l.length→OkO (nth l i)
 rise:∀ i,0<i→i<l.length→(nth l (i - 1)).source<(nth l i).source
 apart:∀ i,i<l.length→∀ k,k<i→hit (nth l k) (nth l i)=false
open Classical in
noncomputable def ckReg (l:List Opn):Int:=if Reg l then 0 else 61
theorem ckReg_or (l:List Opn):(Reg l∧ckReg l=0)∨(¬ Reg l∧ckReg l=61):=by
 unfold ckReg
 by_cases h:Reg l
 ·exact .inl ⟨h,if_pos h⟩
 ·exact .inr ⟨h,if_neg h⟩
def counts (o:Opn) (d:Int):Bool:=decide (o.known≤d)&&(o.until_==0||decide (d<o.until_))
def clB (a b:Opn):Bool:=!(a.register==b.register)&&(meetB a b&&(comI a.inn b.out||comI a.out b.inn))
theorem clB_comm (a b:Opn):clB a b=clB b a:=by
 unfold clB meetB
 rw [comI_comm b.inn a.out,comI_comm b.out a.inn,Bool.or_comm (comI a.out b.inn),Bool.and_comm (decide (b.day≤a.through))]
 congr 2
 rw [Bool.eq_iff_iff];simp only [beq_iff_eq];exact eq_comm
def src (o:Opn):Nat:=o.source.toNat
def cnt (l:List Opn) (d:Int) (bar:Nat→Bool):List Opn:=l.filter fun o=>counts o d && !bar (src o)
structure Vc (c:List Opn):Prop where
 ok:∀ o∈c,OkO o
 rise:c.Pairwise fun a b=>a.source<b.source
theorem rise_pair:∀ {l:List Opn},(∀ i,0<i→i<l.length→(nth l (i - 1)).source<(nth l i).source)→l.Pairwise fun a b=>a.source<b.source
 | [],_=>.nil
 | [a],_=>.cons (fun _ h=>nomatch h) .nil
 | a::b::l,h=>by
  have ih:=rise_pair (l:=b::l) fun i h0 h1=>by
   have:=h (i+1) (by omega) (by simpa using h1)
   obtain ⟨k,rfl⟩:∃ k,i=k+1:=⟨i - 1,by omega⟩
   exact this
  have h1:a.source<b.source:=h 1 (by decide) (by simp)
  refine .cons (fun x hx=>?_) ih
  rcases List.mem_cons.1 hx with rfl | hx
  ·exact h1
  ·exact Int.lt_trans h1 (List.rel_of_pairwise_cons ih hx)
theorem Reg.vc {l:List Opn} (h:Reg l):Vc l:=⟨fun o ho=>by
 obtain ⟨k,hk,rfl⟩:=mem_getD (d:=default) ho
 exact h.ok k hk,rise_pair h.rise⟩
theorem Vc.filter {c:List Opn} (h:Vc c) (p:Opn→Bool):Vc (c.filter p):=⟨fun o ho=>h.ok o (List.mem_filter.1 ho).1,h.rise.filter p⟩
theorem Reg.cnt {l:List Opn} (h:Reg l) (d:Int) (bar:Nat→Bool):Vc (cnt l d bar):=h.vc.filter _
theorem OkO.pos {o:Opn} (h:OkO o):1≤o.source∧o.source≤99999:=wth_iff.1 h.source
theorem OkO.src {o:Opn} (h:OkO o):o.source=Int.ofNat (src o):=by
 have:=h.pos
 unfold Proofs.YtbieflpgjmgaiaaGreat.src
 simp only [Int.ofNat_eq_natCast];omega
theorem OkO.reg {o:Opn} (h:OkO o):o.register=1∨o.register=2:=by
 have:=wth_iff.1 h.register
 omega
theorem Vc.inj {c:List Opn} (h:Vc c) {a b:Opn} (ha:a∈c) (hb:b∈c) (e:src a=src b):a=b:=by
 have e2:a.source=b.source:=by rw [(h.ok a ha).src,(h.ok b hb).src,e]
 have:=h.rise
 induction c with
 | nil=>cases ha
 | cons x c ih =>
  have hx:=(List.pairwise_cons.1 this).1
  rcases List.mem_cons.1 ha with k1 | k1 <;> rcases List.mem_cons.1 hb with k2 | k2
  ·rw [k1,k2]
  ·have:=hx b k2;rw [k1] at e2;omega
  ·have:=hx a k1;rw [k2] at e2;omega
  ·exact ih ⟨fun o ho=>h.ok o (List.mem_cons_of_mem _ ho),(List.pairwise_cons.1 this).2⟩ k1 k2 (List.pairwise_cons.1 this).2
theorem Vc.nodup {c:List Opn} (h:Vc c):(c.map src).Nodup:=by
 rw [List.Nodup,List.pairwise_map]
 refine h.rise.imp_of_mem fun ha hb hab e=>?_
 have:=(h.ok _ ha).src
 have:=(h.ok _ hb).src
 rw [e] at *
 omega
theorem Vc.len {c:List Opn} {l:List Opn} {p:Opn→Bool} (h:Reg l) (e:c=l.filter p):c.length≤60:=by
 rw [e];exact Nat.le_trans (List.length_filter_le _ _) h.len
def isP (a b:Opn):Bool:=a.register==1&&(b.register==2&&clB a b)
def cross (c:List Opn):List (Nat×Nat):=c.flatMap fun a=>(c.filter fun b=>isP a b).map fun b=>(src a,src b)
def edg (c:List Opn) (f x:Nat):Prop:=(f,x)∈cross c
theorem edg_iff {c:List Opn} {f x:Nat}:edg c f x ↔ ∃ a,a∈c∧∃ b,b∈c∧isP a b=true∧src a=f∧src b=x:=by
 unfold edg cross
 rw [List.mem_flatMap]
 constructor
 ·rintro ⟨a,ha,h⟩
  obtain ⟨b,hb,e⟩:=List.mem_map.1 h
  obtain ⟨h1,h2⟩:=List.mem_filter.1 hb
  exact ⟨a,ha,b,h1,h2,congrArg Prod.fst e,congrArg Prod.snd e⟩
 ·rintro ⟨a,ha,b,hb,h1,rfl,rfl⟩
  exact ⟨a,ha,List.mem_map.2 ⟨b,List.mem_filter.2 ⟨hb,h1⟩,rfl⟩⟩
theorem isP_regs {a b:Opn} (h:isP a b=true):a.register=1∧b.register=2∧clB a b=true:=by
 unfold isP at h
 simp only [Bool.and_eq_true,beq_iff_eq] at h
 exact ⟨h.1,h.2.1,h.2.2⟩
def firstsP:List (Nat×Nat)→List Nat→List Nat
 | [],acc=>acc
 | p::l,acc=>firstsP l (bif acc.contains p.1 then acc else acc++[p.1])
def nextP (P:List (Nat×Nat)) (f:Nat):List Nat:=(P.filter fun p=>Nat.beq p.1 f).map Prod.snd
theorem firstsP_mem:∀ {P:List (Nat×Nat)} {acc:List Nat} {f:Nat},f∈firstsP P acc ↔ f∈acc∨∃ x,(f,x)∈P
 | [],acc,f=>⟨fun h=>.inl h,fun h=>h.elim id fun ⟨_,h⟩=>nomatch h⟩
 | p::l,acc,f=>by
  unfold firstsP
  rw [firstsP_mem]
  cases hc:acc.contains p.1 with
  | true =>
   simp only [cond_true]
   have hc:p.1∈acc:=by simpa using hc
   constructor
   ·rintro (h | ⟨x,h⟩)
    ·exact .inl h
    ·exact .inr ⟨x,List.mem_cons_of_mem _ h⟩
   ·rintro (h | ⟨x,h⟩)
    ·exact .inl h
    ·rcases List.mem_cons.1 h with e | h
     ·exact .inl (by rw [←e] at hc;exact hc)
     ·exact .inr ⟨x,h⟩
  | false =>
   simp only [cond_false,List.mem_append,List.mem_singleton]
   constructor
   ·rintro ((h | h) | ⟨x,h⟩)
    ·exact .inl h
    ·exact .inr ⟨p.2,by rw [h];exact List.mem_cons_self ..⟩
    ·exact .inr ⟨x,List.mem_cons_of_mem _ h⟩
   ·rintro (h | ⟨x,h⟩)
    ·exact .inl (.inl h)
    ·rcases List.mem_cons.1 h with e | h
     ·exact .inl (.inr (congrArg Prod.fst e))
     ·exact .inr ⟨x,h⟩
theorem firstsP_nodup:∀ {P:List (Nat×Nat)} {acc:List Nat},acc.Nodup→(firstsP P acc).Nodup
 | [],_,h=>h
 | p::l,acc,h=>by
  unfold firstsP
  cases hc:acc.contains p.1 with
  | true=>exact firstsP_nodup h
  | false =>
   have hc:p.1 ∉ acc:=by simpa using hc
   refine firstsP_nodup ?_
   simp only [cond_false]
   exact List.nodup_append.2 ⟨h,by simp,fun a ha b hb=>by rw [List.mem_singleton.1 hb];exact fun e=>hc (e ▸ ha)⟩
theorem nextP_mem {P:List (Nat×Nat)} {f x:Nat}:x∈nextP P f ↔ (f,x)∈P:=by
 unfold nextP
 rw [List.mem_map]
 constructor
 ·rintro ⟨p,hp,rfl⟩
  obtain ⟨h1,h2⟩:=List.mem_filter.1 hp
  rw [←Nat.eq_of_beq_eq_true h2];exact h1
 ·exact fun h=>⟨_,List.mem_filter.2 ⟨h,Nat.beq_refl f⟩,rfl⟩
def seconds (c:List Opn):List Nat:=(c.filter fun b=>b.register==2).map src
def matchM (P:List (Nat×Nat)):MS Nat:=runM (nextP P) 61 (firstsP P [])
theorem match_inv {c:List Opn} (h:Vc c) (hn:c.length≤60):Kuhn.Inv (nextP (cross c)) (seconds c) (firstsP (cross c) []) (matchM (cross c)):=by
 refine runM_ok (fun p x hx=>?_) (h.filter _).nodup ?_ (firstsP_nodup List.nodup_nil)
 ·have hx:=nextP_mem.1 hx
  obtain ⟨a,ha,b,hb,h1,h2,rfl⟩:=edg_iff.1 hx
  exact List.mem_map.2 ⟨b,List.mem_filter.2 ⟨hb,by simpa using (isP_regs h1).2.1⟩,rfl⟩
 ·unfold seconds
  rw [List.length_map]
  have:=List.length_filter_le (fun b:Opn=>b.register==2) c
  omega
theorem low_c {c:List Opn} (h:Vc c) (hn:c.length≤60):Low (edg c) (matchM (cross c)).n:=by
 have hI:=match_inv h hn
 constructor
 ·obtain ⟨C,c1,c2,_⟩:=some_cover (fun p x hx=>by
   have hx:=nextP_mem.1 hx
   obtain ⟨a,ha,b,hb,h1,h2,rfl⟩:=edg_iff.1 hx
   exact List.mem_map.2 ⟨b,List.mem_filter.2 ⟨hb,by simpa using (isP_regs h1).2.1⟩,rfl⟩) hI
  exact ⟨C,fun f x he=>c1 f (firstsP_mem.2 (.inr ⟨x,he⟩)) x (nextP_mem.2 he),c2⟩
 ·intro C hC
  refine no_less (h.filter _).nodup (fun g s hg hs e=>?_) hI (fun f hf x hx=>hC f x (nextP_mem.1 hx))
  rcases firstsP_mem.1 hg with hg | ⟨x,hg⟩
  ·cases hg
  obtain ⟨a,ha,b,hb,h1,rfl,_⟩:=edg_iff.1 hg
  obtain ⟨b2,hb2,e2⟩:=List.mem_map.1 hs
  obtain ⟨hb3,hr⟩:=List.mem_filter.1 hb2
  have:=h.inj ha hb3 (e.trans e2.symm)
  subst this
  have h3:=(isP_regs h1).1
  have h4:a.register=2:=by simpa using hr
  omega
open Classical in
noncomputable def lowN (E:Nat→Nat→Prop):Nat:=if h:∃ n,Low E n then Classical.choose h else 0
theorem lowN_eq {E:Nat→Nat→Prop} {n:Nat} (h:Low E n):lowN E=n:=by
 unfold lowN
 rw [dif_pos ⟨n,h⟩]
 exact (Classical.choose_spec (⟨n,h⟩:∃ n,Low E n)).uniq h
theorem lowN_ok {c:List Opn} (h:Vc c) (hn:c.length≤60):Low (edg c) (lowN (edg c)):=by
 rw [lowN_eq (low_c h hn)];exact low_c h hn
theorem low_bd {c:List Opn} (h:Vc c) (hn:c.length≤60):lowN (edg c)≤60:=by
 refine Nat.le_trans ((lowN_ok h hn).all (c.map src) fun f x he=>?_) (by rw [List.length_map];exact hn)
 obtain ⟨a,ha,b,hb,h1,rfl,rfl⟩:=edg_iff.1 he
 exact .inl (List.mem_map.2 ⟨a,ha,rfl⟩)
def lessC (c:List Opn) (X:List Nat):List Opn:=c.filter fun o=>!X.contains (src o)
theorem edg_less {c:List Opn} {X:List Nat}:edg (lessC c X)=less (edg c) X:=by
 funext f x
 refine propext ?_
 unfold Kuhn.less
 rw [edg_iff,edg_iff]
 constructor
 ·rintro ⟨a,ha,b,hb,h1,rfl,rfl⟩
  obtain ⟨a1,a2⟩:=List.mem_filter.1 ha
  obtain ⟨b1,b2⟩:=List.mem_filter.1 hb
  exact ⟨⟨a,a1,b,b1,h1,rfl,rfl⟩,by simpa using a2,by simpa using b2⟩
 ·rintro ⟨⟨a,ha,b,hb,h1,rfl,rfl⟩,h2,h3⟩
  exact ⟨a,List.mem_filter.2 ⟨ha,by simpa using h2⟩,b,List.mem_filter.2 ⟨hb,by simpa using h3⟩,h1,rfl,rfl⟩
theorem less_low {c:List Opn} (h:Vc c) (hn:c.length≤60) (X:List Nat):Low (less (edg c) X) (lowN (edg (lessC c X))):=by
 rw [←edg_less]
 exact lowN_ok (h.filter _) (Nat.le_trans (List.length_filter_le _ _) hn)
def may (c:List Opn) (X:List Nat):Prop:=X.length+lowN (edg (lessC c X))=lowN (edg c)
def near (c:List Opn) (o:Opn):List Nat:=(c.filter fun b=>clB o b).map src
theorem may_iff {c:List Opn} (h:Vc c) (hn:c.length≤60) {X:List Nat} (hX:X.Nodup):may c X ↔ ∃ C,Cov (edg c) C∧C.length=lowN (edg c)∧∀ x,x∈X→x∈C:=by
 rw [←(low_less (lowN_ok h hn) (less_low h hn X) hX).2]
 unfold may;omega
theorem near_iff {c:List Opn} (h:Vc c) {o:Opn} (ho:o∈c) {x:Nat}:x∈near c o ↔ edg c (src o) x∨edg c x (src o):=by
 unfold near
 rw [List.mem_map,edg_iff,edg_iff]
 constructor
 ·rintro ⟨b,hb,rfl⟩
  obtain ⟨b1,b2⟩:=List.mem_filter.1 hb
  have r1:=(h.ok o ho).reg
  have r2:=(h.ok b b1).reg
  have hne:o.register≠b.register:=by
   unfold clB at b2
   simp only [Bool.and_eq_true,Bool.not_eq_true',beq_eq_false_iff_ne] at b2
   exact b2.1
  rcases r1 with r1 | r1
  ·exact .inl ⟨o,ho,b,b1,by unfold isP;rw [b2,r1,show b.register=2 by omega];rfl,rfl,rfl⟩
  ·exact .inr ⟨b,b1,o,ho,by unfold isP;rw [clB_comm,b2,r1,show b.register=1 by omega];rfl,rfl,rfl⟩
 ·rintro (⟨a,ha,b,hb,h1,e1,rfl⟩ | ⟨a,ha,b,hb,h1,rfl,e2⟩)
  ·have:=h.inj ha ho e1
   subst this
   exact ⟨b,List.mem_filter.2 ⟨hb,(isP_regs h1).2.2⟩,rfl⟩
  ·have:=h.inj hb ho e2
   subst this
   exact ⟨a,List.mem_filter.2 ⟨ha,by rw [clB_comm];exact (isP_regs h1).2.2⟩,rfl⟩
theorem near_not {c:List Opn} (h:Vc c) {o:Opn} (ho:o∈c):src o ∉ near c o:=by
 intro hx
 unfold near at hx
 obtain ⟨b,hb,e⟩:=List.mem_map.1 hx
 obtain ⟨b1,b2⟩:=List.mem_filter.1 hb
 have:=h.inj b1 ho e
 subst this
 unfold clB at b2
 rw [beq_self_eq_true] at b2;cases b2
theorem near_nodup {c:List Opn} (h:Vc c) (o:Opn):(near c o).Nodup:=(h.filter _).nodup
theorem stay_iff {c:List Opn} (h:Vc c) (hn:c.length≤60) {o:Opn} (ho:o∈c):may c (near c o) ↔ ∃ C,Cov (edg c) C∧C.length=lowN (edg c)∧src o ∉ C:=by
 rw [←low_near (lowN_ok h hn) (less_low h hn (near c o)) (near_nodup h o) (fun x=>near_iff h ho) (near_not h ho)]
 unfold may;omega
theorem may_or {c:List Opn} (h:Vc c) (hn:c.length≤60) {o:Opn} (ho:o∈c):may c [src o]∨may c (near c o):=by
 rw [may_iff h hn (by simp),stay_iff h hn ho]
 rcases low_or (lowN_ok h hn) (src o) with ⟨C,c1,c2,c3⟩ | h1
 ·exact .inl ⟨C,c1,c2,fun x hx=>by rw [List.mem_singleton.1 hx];exact c3⟩
 ·exact .inr h1
open Classical in
noncomputable def truI (c:List Opn) (o:Opn):Int:=if may c [src o] then (if may c (near c o) then 2 else 0) else 1
theorem truI_eq {c:List Opn} (h:Vc c) (hn:c.length≤60) {o:Opn} (ho:o∈c) {yes no:Bool} (hy:yes=true ↔ may c (near c o)) (hno:no=true ↔ may c [src o]):truI c o=if yes&&no then 2 else if yes then 1 else 0:=by
 have:=may_or h hn ho
 unfold truI
 cases yes <;> cases no
 ·rcases this with h1 | h1
  ·cases hno.2 h1
  ·cases hy.2 h1
 ·rw [if_pos (hno.1 rfl),if_neg (fun h=>nomatch hy.2 h)];rfl
 ·rw [if_neg (fun h=>nomatch hno.2 h)];rfl
 ·rw [if_pos (hno.1 rfl),if_pos (hy.1 rfl)];rfl
end Go.Proofs.YtbieflpgjmgaiaaGreat
/- The table of this program's types. -/
set_option maxRecDepth 100000
namespace Go.Proofs.YtbieflpgjmgaiaaGreat
noncomputable def tb:Tab:=[
 (3,⟨1,false,.int .i64,[.int .i64 (0)]⟩),
 (45,⟨9,true,.struct false [(0,1,false),(1,1,false),(2,1,false),(3,1,false),(4,1,false),(5,1,false),(6,1,false),(7,1,false),(8,1,false)],[.int .i64 (0),.int .i64 (0),.int .i64 (0),.int .i64 (0),.int .i64 (0),.lst 0 true 0 fun _=>[],.lst 0 true 0 fun _=>[],.int .i64 (0),.int .i64 (0)]⟩),
 (32,⟨1,false,.slice 3 1,[.lst 0 true 0 fun _=>[]]⟩),
 (22,⟨1,false,.slice 45 9,[.lst 0 true 0 fun _=>[]]⟩),
 (69,⟨2,true,.struct true [(0,1,false),(1,1,false)],[.int .i64 (0),.int .i64 (0)]⟩),
 (25,⟨1,false,.int .i64,[.int .i64 (0)]⟩),
 (70,⟨1,false,.ptr,[.nilp]⟩),
 (51,⟨1,false,.slice 69 2,[.lst 0 true 0 fun _=>[]]⟩),
 (23,⟨2,true,.arr 2 1 false,[.int .i64 (0),.int .i64 (0)]⟩),
 (153,⟨1,false,.int .u64,[.int .u64 (0)]⟩),
 (42,⟨1,false,.func,[.nilf]⟩),
 (95,⟨1,true,.struct false [(0,1,false)],[.lst 0 true 0 fun _=>[]]⟩),
 (96,⟨1,false,.mapA (.bool false),[.nilm]⟩),
 (110,⟨1,false,.mapA (.int .i64 (0)),[.nilm]⟩),
 (101,⟨8,true,.arr 8 1 false,[.int .i64 (0),.int .i64 (0),.int .i64 (0),.int .i64 (0),.int .i64 (0),.int .i64 (0),.int .i64 (0),.int .i64 (0)]⟩),
 (125,⟨1,false,.int .u64,[.int .u64 (0)]⟩),
 (4,⟨1,false,.bool,[.bool false]⟩),
 (157,⟨1,false,.ptr,[.nilp]⟩),
 (98,⟨3,true,.struct false [(0,1,true),(1,1,false),(2,1,false)],[.lst 0 true 0 fun _=>[],.int .i64 (0),.nilm]⟩),
 (130,⟨1,false,.mapA (.lst 0 true 0 fun _=>[]),[.nilm]⟩),
 (40,⟨3,true,.arr 3 1 false,[.int .i64 (0),.int .i64 (0),.int .i64 (0)]⟩),
 (80,⟨1,false,.func,[.nilf]⟩),
 (146,⟨1,false,.int .u64,[.int .u64 (0)]⟩),
 (144,⟨1,false,.int .u32,[.int .u32 (0)]⟩),
 (135,⟨1,false,.slice 32 1,[.lst 0 true 0 fun _=>[]]⟩),
 (39,⟨1,false,.slice 101 8,[.lst 0 true 0 fun _=>[]]⟩),
 (53,⟨2,true,.struct false [(0,1,false),(1,1,false)],[.lst 0 true 0 fun _=>[],.lst 0 true 0 fun _=>[]]⟩),
 (128,⟨1,false,.slice 4 1,[.lst 0 true 0 fun _=>[]]⟩),
 (5,⟨1,false,.int .u8,[.int .u8 (0)]⟩),
 (137,⟨1,false,.int .i64,[.int .i64 (0)]⟩),
 (37,⟨1,false,.func,[.nilf]⟩),
 (9,⟨1,false,.str,[.str ⟨#[]⟩]⟩),
 (132,⟨1,false,.func,[.nilf]⟩)]
theorem tb_ok {r:Rm}:TabOK (sE r) tb=true:=by kernel_rfl
end Go.Proofs.YtbieflpgjmgaiaaGreat
/- Openings by value; the checks of one opening. -/
set_option maxRecDepth 100000
namespace Go.Proofs.YtbieflpgjmgaiaaGreat
theorem bs_ints:∀ (l:List Int) (k:Nat),k<l.length→((l.map (PV.int .i64)).drop (k*1)).take 1=[PV.int .i64 (l.getD k 0)]
 | a::l,0,_=>rfl
 | a::l,k+1,h=>by
  have:=bs_ints l k (by simpa using h)
  rw [Nat.mul_one] at this ⊢
  exact this
def eInts (b:Bool) (l:List Int):PV:=.lst 3 b l.length fun k=>[.int .i64 (l.getD k 0)]
def eOpn (o:Opn):List PV:=[.int .i64 o.source,.int .i64 o.register,.int .i64 o.day,.int .i64 o.through,.int .i64 o.lawful,eInts o.inB o.inn,eInts o.outB o.out,.int .i64 o.known,.int .i64 o.until_]
def eOpns (b:Bool) (l:List Opn):PV:=.lst 45 b l.length fun k=>eOpn (nth l k)
theorem blt_t {a b:Nat} (h:a<b):Nat.blt a b=true:=by simpa using h
theorem blt_f {a b:Nat} (h:¬ a<b):Nat.blt a b=false:=by rw [←Bool.not_eq_true];simpa using h
structure SzW (o:Opn):Prop where
 inn:o.inn.length<9223372036854775808
 out:o.out.length<9223372036854775808
structure Sz (o:Opn):Prop where
 inn:o.inn.length<1000000
 out:o.out.length<1000000
variable {r:Rm}
theorem within_ok (n lo hi:Int):VP (sE r) 59 [iv n,iv lo,iv hi] (bv (wth n lo hi)):=by
 refine VP.of (fn:=Tryz.f59) tb_ok (wk_ok rfl) (by kernel_rfl) rfl rfl rfl ?_
 refine VSt.run tb_ok false [] 200 rfl trivial ?_
 refine VSt.splitO 10 rfl (fun h=>?_) (fun h=>?_)
 ·refine VSt.run tb_ok false [] 200 rfl trivial ?_
  refine EndsP.mk rfl rfl rfl ?_
  show bv _=bv _
  unfold wth;rw [h];rfl
 ·refine VSt.run tb_ok false [] 200 rfl trivial ?_
  refine EndsP.mk rfl rfl rfl ?_
  show bv _=bv _
  unfold wth;rw [h];rfl
theorem isDay_ok (n:Int):VP (sE r) 99 [iv n] (bv (wth n 0 100000)):=by
 refine VP.of (fn:=Tryz.f99) tb_ok (wk_ok rfl) (by kernel_rfl) rfl rfl rfl ?_
 refine VSt.go tb_ok false [] 200 rfl AllP.n ?_
 refine VSt.pc rfl rfl rfl rfl rfl rfl rfl rfl ((within_ok n 0 100000)) ?_
 refine VSt.go tb_ok false [] 200 rfl AllP.n ?_
 exact EndsP.mk rfl rfl rfl rfl
theorem named_okW {b:Bool} {l:List Int} (hn:l.length<9223372036854775808):VP (sE r) 97 [.p (eInts b l)] (bv (namedB l)):=by
 refine VP.of (fn:=Tryz.f97) tb_ok (wk_ok rfl) (by kernel_rfl) rfl rfl rfl ?_
 refine VSt.go tb_ok false [] 200 rfl AllP.n ?_
 refine VSt.rangeT tb_ok l.length (by omega) [0,5] (fun _=>[]) (fun _=>[]) (fun k=>∀ i,i<k→nameB l i=true) rfl rfl rfl (fun _=>rfl) rfl rfl u0_nil trivial (fun i hi=>absurd hi (Nat.not_lt_zero i)) (fun k hk hp=>?_) (fun hp=>?_)
 ·have bad:nameB l k=false→namedB l=false:=fun h=>by unfold namedB;rw [allB_not hk h];rfl
  have step:nameB l k=true→∀ i,i<k+1→nameB l i=true:=fun h i hi=>by
   by_cases e:i=k
   ·subst e;exact h
   ·exact hp i (by omega)
  refine VSt.go tb_ok false [] 200 rfl (AllP.c ‹_› (AllP.c rfl AllP.n)) ?_
  refine VSt.pc rfl rfl rfl rfl rfl rfl rfl rfl ((within_ok (l.getD k 0) 1 999)) ?_
  refine VSt.go tb_ok false [] 200 rfl AllP.n ?_
  refine VSt.splitO 15 rfl (fun h1=>?_) (fun h1=>?_)
  ·have h1:(!wth (l.getD k 0) 1 999)=true:=h1
   refine VSt.go tb_ok false [] 200 rfl AllP.n ?_
   refine EndsP.mk rfl rfl rfl ?_
   rw [bad (by unfold nameB;rw [show wth (l.getD k 0) 1 999=false by simpa using h1];rfl)];rfl
  have h1:wth (l.getD k 0) 1 999=true:=by
   have h1:(!wth (l.getD k 0) 1 999)=false:=h1
   simpa using h1
  refine VSt.go tb_ok false [] 200 rfl AllP.n ?_
  refine VSt.splitO 18 rfl (fun h2=>?_) (fun h2=>?_)
  ·have h2:0<k:=by have h2:=of_decide_eq_true h2;simp only [Int.ofNat_eq_natCast] at h2;omega
   refine VSt.go tb_ok false [22] 200 rfl (AllP.c (by unfold inR;(try simp only [Int.ofNat_eq_natCast]);omega) AllP.n) ?_
   refine VSt.putO 21 (nv (k - 1)) rfl (iv_nv (by simp only [Int.ofNat_eq_natCast];omega)) ?_
   refine VSt.go tb_ok false [] 200 rfl (AllP.c (by omega) (AllP.c rfl AllP.n)) ?_
   refine VSt.cond rfl (fun h3=>?_) (fun h3=>?_)
   ·have h3:l.getD k 0≤l.getD (k - 1) 0:=of_decide_eq_true h3
    refine VSt.go tb_ok false [] 200 rfl AllP.n ?_
    refine EndsP.mk rfl rfl rfl ?_
    rw [bad (by unfold nameB;rw [decide_eq_false (by omega:¬ l.getD (k - 1) 0<l.getD k 0),beq_ne (show k≠0 by omega)];simp)];rfl
   ·have h3:¬ l.getD k 0≤l.getD (k - 1) 0:=of_decide_eq_false h3
    refine VSt.go tb_ok false [] 200 rfl AllP.n ?_
    refine ⟨by (refine Vw.drop (by repeat (first | exact wf_nil | refine wf_back rfl rfl rfl ?_ | refine wf_cons rfl ‹_› (ren_only _ ‹_›) ?_))),step ?_⟩
    unfold nameB;rw [decide_eq_true (by omega:l.getD (k - 1) 0<l.getD k 0),h1];simp
  ·have h2:k=0:=by have h2:=of_decide_eq_false h2;simp only [Int.ofNat_eq_natCast] at h2;omega
   refine VSt.go tb_ok false [] 200 rfl AllP.n ?_
   refine ⟨by (refine Vw.drop (by repeat (first | exact wf_nil | refine wf_back rfl rfl rfl ?_ | refine wf_cons rfl ‹_› (ren_only _ ‹_›) ?_))),step ?_⟩
   unfold nameB;rw [h1,h2];rfl
 ·refine VSt.go tb_ok false [] 200 rfl AllP.n ?_
  refine EndsP.mk rfl rfl rfl ?_
  show bv (decide (Int.ofNat l.length≤8))=bv _
  unfold namedB
  rw [allB_iff.2 hp,Bool.true_and]
  congr 2
  exact propext ⟨fun h=>by simp only [Int.ofNat_eq_natCast] at h;omega,fun h=>by simp only [Int.ofNat_eq_natCast];omega⟩
def idxI (l:List Int) (p:Int→Bool):Int:=match l.findIdx? p with
 | some k=>k
 | none=> -1
theorem idxI_hit {l:List Int} {k:Nat} {p:Int→Bool} (hk:k<l.length) (h:p (l.getD k 0)=true) (hb:∀ i,i<k→p (l.getD i 0)=false):idxI l p=k:=by
 unfold idxI
 have:l.findIdx? p=some k:=by
  rw [List.findIdx?_eq_some_iff_getElem]
  refine ⟨hk,by rw [getD_get hk] at h;exact h,fun j hj=>?_⟩
  have:=hb j hj
  rw [getD_get (by omega)] at this
  simp [this]
 rw [this]
theorem idxI_miss {l:List Int} {p:Int→Bool} (hb:∀ i,i<l.length→p (l.getD i 0)=false):idxI l p = -1:=by
 unfold idxI
 have:l.findIdx? p=none:=by
  rw [List.findIdx?_eq_none_iff]
  intro x hx
  obtain ⟨k,hk,rfl⟩:=List.mem_iff_getElem.1 hx
  have:=hb k hk
  rwa [getD_get hk] at this
 rw [this]
theorem idxInt_ok {b:Bool} {l:List Int} {f:Nat} {first cap:List AV} {p:Int→Bool} (hn:l.length<9223372036854775808) (hon:(AV.fn f first cap).only (olds [])=true) (hoc:∀ x,AV.onlys (olds []) (first++([iv x]++cap))=true) (hf:∀ x,VP (sE r) f (first++([iv x]++cap)) (bv (p x))) :
  VP (sE r) 108 [.p (eInts b l),.fn f first cap] (iv (idxI l p)):=by
 refine VP.of (fn:=Tryz.f108) tb_ok (wk_ok rfl) (by kernel_rfl) rfl rfl rfl ?_
 refine VSt.run tb_ok false [] 200 rfl trivial ?_
 refine VSt.rangeF tb_ok l.length (by omega) (fun _=>[(0,.p (eInts b l)),(1,.fn f first cap)]) (fun _=>[]) (fun k=>∀ i,i<k→p (l.getD i 0)=false) rfl rfl (fun _=>rfl) ?_ (fun i hi=>absurd hi (Nat.not_lt_zero i)) (fun k hk hp=>?_) (fun hp=>?_)
 ·(refine Vw.drop (by repeat (first | exact wf_nil | refine wf_back rfl rfl rfl ?_ | refine wf_cons rfl ‹_› (ren_only _ ‹_›) ?_)))
 ·refine VSt.run tb_ok false [] 200 rfl (⟨hk,rfl⟩) ?_
  refine VSt.pcall (hf (l.getD k 0)) rfl rfl rfl rfl rfl rfl (hoc _) ?_
  refine VSt.run tb_ok false [] 200 rfl trivial ?_
  refine VSt.cond rfl (fun hc=>?_) (fun hc=>?_)
  ·refine VSt.run tb_ok false [] 200 rfl trivial ?_
   refine EndsP.mk rfl rfl rfl ?_
   rw [idxI_hit hk hc hp];rfl
  ·refine VSt.run tb_ok false [] 200 rfl trivial ?_
   refine ⟨by (refine Vw.drop (by repeat (first | exact wf_nil | refine wf_back rfl rfl rfl ?_ | refine wf_cons rfl ‹_› (ren_only _ ‹_›) ?_))),fun i hi=>?_⟩
   by_cases e:i=k
   ·subst e;exact hc
   ·exact hp i (by omega)
 ·refine VSt.run tb_ok false [] 200 rfl trivial ?_
  refine EndsP.mk rfl rfl rfl ?_
  rw [idxI_miss hp];rfl
theorem contInt_ok {b:Bool} {l:List Int} {f:Nat} {first cap:List AV} {p:Int→Bool} (hn:l.length<9223372036854775808) (hon:(AV.fn f first cap).only (olds [])=true) (hoc:∀ x,AV.onlys (olds []) (first++([iv x]++cap))=true) (hf:∀ x,VP (sE r) f (first++([iv x]++cap)) (bv (p x))) :
  VP (sE r) 65 [.p (eInts b l),.fn f first cap] (bv (l.any p)):=by
 refine VP.of (fn:=Tryz.f65) tb_ok (wk_ok rfl) (by kernel_rfl) rfl rfl rfl ?_
 refine VSt.run tb_ok false [] 200 rfl trivial ?_
 refine VSt.pcall (idxInt_ok hn hon hoc hf) rfl rfl rfl rfl rfl rfl (by
  show (true&&((AV.fn f first cap).only (olds [])&&true))=true
  rw [hon];rfl) ?_
 refine VSt.run tb_ok false [] 200 rfl trivial ?_
 refine EndsP.mk rfl rfl rfl ?_
 show bv _=bv _
 congr 2
 unfold idxI
 cases h:l.findIdx? p with
 | none =>
  rw [List.findIdx?_eq_none_iff] at h
  symm
  show l.any p=false
  rw [List.any_eq_false]
  exact fun x hx=>by simp [h x hx]
 | some k =>
  have:l.any p=true:=by
   rw [List.findIdx?_eq_some_iff_getElem] at h
   obtain ⟨hk,h,_⟩:=h
   exact List.any_eq_true.2 ⟨_,List.getElem_mem hk,h⟩
  rw [this];exact decide_eq_true (Int.natCast_nonneg k)
theorem Index_ok {b:Bool} {l:List Int} (x:Int) (hn:l.length<9223372036854775808):VP (sE r) 129 [.p (eInts b l),iv x] (iv (idxI l fun y=>x==y)):=by
 refine VP.of (fn:=Tryz.f129) tb_ok (wk_ok rfl) (by kernel_rfl) rfl rfl rfl ?_
 refine VSt.go tb_ok false [] 200 rfl AllP.n ?_
 refine VSt.rangeT tb_ok l.length hn [0,1,6] (fun _=>[]) (fun _=>[]) (fun k=>∀ i,i<k→(x==l.getD i 0)=false) rfl rfl rfl (fun _=>rfl) rfl rfl u0_nil trivial (fun i hi=>absurd hi (Nat.not_lt_zero i)) (fun k hk hp=>?_) (fun hp=>?_)
 ·refine VSt.go tb_ok false [] 200 rfl (AllP.c ‹_› (AllP.c rfl AllP.n)) ?_
  refine VSt.cond rfl (fun h=>?_) (fun h=>?_)
  ·have h:(x==l.getD k 0)=true:=h
   refine VSt.go tb_ok false [] 200 rfl AllP.n ?_
   refine EndsP.mk rfl rfl rfl ?_
   show iv _=iv _
   rw [idxI_hit hk h hp];rfl
  ·have h:(x==l.getD k 0)=false:=h
   refine VSt.go tb_ok false [] 200 rfl AllP.n ?_
   refine ⟨by (refine Vw.drop (by repeat (first | exact wf_nil | refine wf_back rfl rfl rfl ?_ | refine wf_cons rfl ‹_› (ren_only _ ‹_›) ?_))),fun i hi=>?_⟩
   by_cases e:i=k
   ·subst e;exact h
   ·exact hp i (by omega)
 ·refine VSt.go tb_ok false [] 200 rfl AllP.n ?_
  refine EndsP.mk rfl rfl rfl ?_
  show iv _=iv _
  rw [idxI_miss hp]
theorem idx_any (l:List Int) (p:Int→Bool):decide (0≤idxI l p)=l.any p:=by
 unfold idxI
 cases h:l.findIdx? p with
 | none =>
  rw [List.findIdx?_eq_none_iff] at h
  symm
  show l.any p=false
  rw [List.any_eq_false]
  exact fun x hx=>by simp [h x hx]
 | some k =>
  have:l.any p=true:=by
   rw [List.findIdx?_eq_some_iff_getElem] at h
   obtain ⟨hk,h,_⟩:=h
   exact List.any_eq_true.2 ⟨_,List.getElem_mem hk,h⟩
  rw [this];exact decide_eq_true (Int.natCast_nonneg k)
theorem contains_okW {b:Bool} {l:List Int} (x:Int) (hn:l.length<9223372036854775808):VP (sE r) 107 [.p (eInts b l),iv x] (bv (hasI l x)):=by
 refine VP.of (fn:=Tryz.f107) tb_ok (wk_ok rfl) (by kernel_rfl) rfl rfl rfl ?_
 refine VSt.go tb_ok false [] 200 rfl AllP.n ?_
 refine VSt.pc rfl rfl rfl rfl rfl rfl rfl rfl ((Index_ok (b:=b) (l:=l) x (by omega))) ?_
 refine VSt.go tb_ok false [] 200 rfl AllP.n ?_
 refine EndsP.mk rfl rfl rfl ?_
 show bv _=bv _
 congr 2
 exact idx_any l fun y=>x==y
theorem common1_okW {b:Bool} {l:List Int} (x:Int) (hn:l.length<9223372036854775808):VP (sE r) 128 [iv x,.p (.fp [eInts b l] 0)] (bv (hasI l x)):=by
 refine VP.of (fn:=Tryz.f128) tb_ok (wk_ok rfl) (by kernel_rfl) rfl rfl rfl ?_
 refine VSt.go tb_ok false [] 200 rfl AllP.n ?_
 refine VSt.pc rfl rfl rfl rfl rfl rfl rfl rfl ((contains_okW (b:=b) (l:=l) x hn)) ?_
 refine VSt.go tb_ok false [] 200 rfl AllP.n ?_
 exact EndsP.mk rfl rfl rfl rfl
theorem common_okW {b b2:Bool} {l m:List Int} (hn:l.length<9223372036854775808) (hm:m.length<9223372036854775808):VP (sE r) 98 [.p (eInts b l),.p (eInts b2 m)] (bv (comI l m)):=by
 refine VP.of (fn:=Tryz.f98) tb_ok (wk_ok rfl) (by kernel_rfl) rfl rfl rfl ?_
 refine VSt.go tb_ok false [6] 200 rfl AllP.n ?_
 refine VSt.viewO (Vw.freezeC 0 [eInts b2 m] rfl rfl) ?_
 refine VSt.go tb_ok false [7] 200 rfl AllP.n ?_
 refine VSt.pc rfl rfl rfl rfl rfl rfl rfl rfl ((contInt_ok (b:=b) (l:=l) (f:=128) (first:=[]) (cap:=[.p (.fp [eInts b2 m] 0)]) (p:=hasI m) (by omega) rfl (fun _=>rfl) (fun x=>common1_okW (b:=b2) x hm))) ?_
 refine VSt.go tb_ok false [] 200 rfl AllP.n ?_
 exact EndsP.mk rfl rfl rfl rfl
theorem common_ok {b b2:Bool} {l m:List Int} (hn:l.length<1000000) (hm:m.length<1000000):VP (sE r) 98 [.p (eInts b l),.p (eInts b2 m)] (bv (comI l m)):=common_okW (by omega) (by omega)
end Go.Proofs.YtbieflpgjmgaiaaGreat
/- Walks: the program's checks of an opening, and of openings. -/
set_option maxRecDepth 100000
namespace Go.Proofs.YtbieflpgjmgaiaaGreat
variable {r:Rm}
theorem nlt {k n:Nat} (h:decide (Int.ofNat k<Int.ofNat n)=true):k<n:=by
 have:=of_decide_eq_true h;simp only [Int.ofNat_eq_natCast] at this;omega
theorem nge {k n:Nat} (h:decide (Int.ofNat k<Int.ofNat n)=false):n≤k:=by
 have:=of_decide_eq_false h;simp only [Int.ofNat_eq_natCast] at this;omega
theorem n0 {k:Nat} (h:decide ((0:Int)<Int.ofNat k)=true):0<k:=by
 have:=of_decide_eq_true h;simp only [Int.ofNat_eq_natCast] at this;omega
theorem n0' {k:Nat} (h:decide ((0:Int)<Int.ofNat k)=false):k=0:=by
 have:=of_decide_eq_false h;simp only [Int.ofNat_eq_natCast] at this;omega
theorem nt {b:Bool} (h:(!b)=true):b=false:=by cases b <;> first | rfl | cases h
theorem nf {b:Bool} (h:(!b)=false):b=true:=by cases b <;> first | rfl | cases h
theorem pred_iv {k:Nat} (h:0<k):AImp (iv (Int.ofNat k - 1)) (nv (k - 1)):=iv_nv (by simp only [Int.ofNat_eq_natCast];omega)
theorem ckO_bad {o:Opn} (h:¬ OkO o):ckO o=60:=if_neg h
theorem ckO_good {o:Opn} (h:OkO o):ckO o=0:=if_pos h
theorem ckO_ok {o:Opn} (hz:SzW o):VP (sE r) 48 [.agg ((eOpn o).map .p)] (iv (ckO o)):=by
 have hz1:=hz.inn
 have hz2:=hz.out
 refine VP.of (fn:=Tryz.f48) tb_ok (wk_ok rfl) (by kernel_rfl) rfl rfl rfl ?_
 refine VSt.go tb_ok false [] 200 rfl AllP.n ?_
 refine VSt.pc rfl rfl rfl rfl rfl rfl rfl rfl ((within_ok o.source 1 99999)) ?_
 refine VSt.go tb_ok false [] 200 rfl AllP.n ?_
 refine VSt.splitO 7 rfl (fun a1=>?_) (fun a1=>?_)
 ·refine VSt.go tb_ok false [] 200 rfl AllP.n ?_
  refine EndsP.mk rfl rfl rfl ?_
  rw [ckO_bad fun h=>by have:=h.source;rw [nt a1] at this;cases this];rfl
 refine VSt.go tb_ok false [] 200 rfl AllP.n ?_
 refine VSt.pc rfl rfl rfl rfl rfl rfl rfl rfl ((within_ok o.register 1 2)) ?_
 refine VSt.go tb_ok false [] 200 rfl AllP.n ?_
 refine VSt.splitO 13 rfl (fun a2=>?_) (fun a2=>?_)
 ·refine VSt.go tb_ok false [] 200 rfl AllP.n ?_
  refine EndsP.mk rfl rfl rfl ?_
  rw [ckO_bad fun h=>by have:=h.register;rw [nt a2] at this;cases this];rfl
 refine VSt.go tb_ok false [] 200 rfl AllP.n ?_
 refine VSt.splitO 18 rfl (fun a3=>?_) (fun a3=>?_)
 ·have a3:=of_decide_eq_true a3
  refine VSt.go tb_ok false [] 200 rfl AllP.n ?_
  refine EndsP.mk rfl rfl rfl ?_
  rw [ckO_bad fun h=>by have:=h.day;omega];rfl
 have a3:¬ o.day<0:=of_decide_eq_false a3
 refine VSt.go tb_ok false [] 200 rfl AllP.n ?_
 refine VSt.splitO 25 rfl (fun a4=>?_) (fun a4=>?_)
 ·have a4:=of_decide_eq_true a4
  refine VSt.go tb_ok false [] 200 rfl AllP.n ?_
  refine EndsP.mk rfl rfl rfl ?_
  rw [ckO_bad fun h=>by have:=h.day;omega];rfl
 have a4:¬ o.through<o.day:=of_decide_eq_false a4
 refine VSt.go tb_ok false [] 200 rfl AllP.n ?_
 refine VSt.splitO 30 rfl (fun a5=>?_) (fun a5=>?_)
 ·have a5:=of_decide_eq_true a5
  refine VSt.go tb_ok false [] 200 rfl AllP.n ?_
  refine EndsP.mk rfl rfl rfl ?_
  rw [ckO_bad fun h=>by have:=h.day;omega];rfl
 have a5:¬ 100000<o.through:=of_decide_eq_false a5
 refine VSt.go tb_ok false [] 200 rfl AllP.n ?_
 refine VSt.pc rfl rfl rfl rfl rfl rfl rfl rfl ((within_ok o.lawful 0 2)) ?_
 refine VSt.go tb_ok false [] 200 rfl AllP.n ?_
 refine VSt.splitO 36 rfl (fun a6=>?_) (fun a6=>?_)
 ·refine VSt.go tb_ok false [] 200 rfl AllP.n ?_
  refine EndsP.mk rfl rfl rfl ?_
  rw [ckO_bad fun h=>by have:=h.lawful;rw [nt a6] at this;cases this];rfl
 refine VSt.go tb_ok false [] 200 rfl AllP.n ?_
 refine VSt.pc rfl rfl rfl rfl rfl rfl rfl rfl ((named_okW (b:=o.inB) (l:=o.inn) hz1)) ?_
 refine VSt.go tb_ok false [] 200 rfl AllP.n ?_
 refine VSt.splitO 42 rfl (fun a7=>?_) (fun a7=>?_)
 ·refine VSt.go tb_ok false [] 200 rfl AllP.n ?_
  refine EndsP.mk rfl rfl rfl ?_
  rw [ckO_bad fun h=>by have:=h.inn;rw [nt a7] at this;cases this];rfl
 refine VSt.go tb_ok false [] 200 rfl AllP.n ?_
 refine VSt.pc rfl rfl rfl rfl rfl rfl rfl rfl ((named_okW (b:=o.outB) (l:=o.out) hz2)) ?_
 refine VSt.go tb_ok false [] 200 rfl AllP.n ?_
 refine VSt.splitO 48 rfl (fun a8=>?_) (fun a8=>?_)
 ·refine VSt.go tb_ok false [] 200 rfl AllP.n ?_
  refine EndsP.mk rfl rfl rfl ?_
  rw [ckO_bad fun h=>by have:=h.out;rw [nt a8] at this;cases this];rfl
 refine VSt.go tb_ok false [] 200 rfl AllP.n ?_
 refine VSt.pc rfl rfl rfl rfl rfl rfl rfl rfl ((common_okW (b:=o.inB) (b2:=o.outB) (l:=o.inn) (m:=o.out) hz1 hz2)) ?_
 refine VSt.go tb_ok false [] 200 rfl AllP.n ?_
 refine VSt.splitO 55 rfl (fun a9=>?_) (fun a9=>?_)
 ·refine VSt.go tb_ok false [] 200 rfl AllP.n ?_
  refine EndsP.mk rfl rfl rfl ?_
  rw [ckO_bad fun h=>by have:=h.com;rw [a9] at this;cases this];rfl
 refine VSt.go tb_ok false [] 200 rfl AllP.n ?_
 refine VSt.pc rfl rfl rfl rfl rfl rfl rfl rfl ((isDay_ok o.known)) ?_
 refine VSt.go tb_ok false [] 200 rfl AllP.n ?_
 refine VSt.splitO 61 rfl (fun b1=>?_) (fun b1=>?_)
 ·refine VSt.go tb_ok false [] 200 rfl AllP.n ?_
  refine EndsP.mk rfl rfl rfl ?_
  rw [ckO_bad fun h=>by have:=h.known;rw [nt b1] at this;cases this];rfl
 have hk:=wth_iff.1 (nf b1)
 refine VSt.go tb_ok false [] 200 rfl AllP.n ?_
 refine VSt.splitO 65 rfl (fun b2=>?_) (fun b2=>?_)
 ·refine VSt.go tb_ok false [] 200 rfl (AllP.c (by unfold inR;(try simp only [Int.ofNat_eq_natCast]);omega) AllP.n) ?_
  refine VSt.pc rfl rfl rfl rfl rfl rfl rfl rfl ((within_ok o.until_ (o.known+1) 100000)) ?_
  refine VSt.go tb_ok false [] 200 rfl AllP.n ?_
  refine VSt.cond rfl (fun b3=>?_) (fun b3=>?_)
  ·refine VSt.go tb_ok false [] 200 rfl AllP.n ?_
   refine EndsP.mk rfl rfl rfl ?_
   rw [ckO_bad fun h=>by
    have:=h.until_ (fun e=>by have b2:(!(o.until_==0))=true:=b2;rw [e] at b2;cases b2)
    rw [nt b3] at this;cases this];rfl
  ·refine VSt.go tb_ok false [] 200 rfl AllP.n ?_
   refine EndsP.mk rfl rfl rfl ?_
   rw [ckO_good ⟨nf a1,nf a2,by omega,nf a6,nf a7,nf a8,a9,nf b1,fun _=>nf b3⟩];rfl
 ·refine VSt.go tb_ok false [] 200 rfl AllP.n ?_
  refine EndsP.mk rfl rfl rfl ?_
  rw [ckO_good ⟨nf a1,nf a2,by omega,nf a6,nf a7,nf a8,a9,nf b1,fun e=>absurd (by have b2:(!(o.until_==0))=false:=b2;simpa using b2) e⟩];rfl
theorem meet_ok (a b:Opn):VP (sE r) 101 [.agg ((eOpn a).map .p),.agg ((eOpn b).map .p)] (bv (meetB a b)):=by
 refine VP.of (fn:=Tryz.f101) tb_ok (wk_ok rfl) (by kernel_rfl) rfl rfl rfl ?_
 refine VSt.go tb_ok false [] 200 rfl AllP.n ?_
 refine VSt.splitO 10 rfl (fun h=>?_) (fun h=>?_)
 ·refine VSt.go tb_ok false [] 200 rfl AllP.n ?_
  refine EndsP.mk rfl rfl rfl ?_
  show bv _=bv _
  unfold meetB;rw [h];rfl
 ·refine VSt.go tb_ok false [] 200 rfl AllP.n ?_
  refine EndsP.mk rfl rfl rfl ?_
  show bv _=bv _
  unfold meetB;rw [h];rfl
theorem ever_ok (a b:Opn):VP (sE r) 102 [.agg ((eOpn a).map .p),.agg ((eOpn b).map .p)] (bv (everB a b)):=by
 refine VP.of (fn:=Tryz.f102) tb_ok (wk_ok rfl) (by kernel_rfl) rfl rfl rfl ?_
 have snd:∀ (x:Bool),(a.until_==0||decide (b.known<a.until_))=x→everB a b=(x&&(b.until_==0||decide (a.known<b.until_))):=fun x h=>by unfold everB;rw [h]
 refine VSt.go tb_ok false [] 200 rfl AllP.n ?_
 refine VSt.splitO 8 rfl (fun h1=>?_) (fun h1=>?_)
 ·have e:=snd true (by rw [h1];rfl)
  refine VSt.go tb_ok false [] 200 rfl AllP.n ?_
  refine VSt.splitO 19 rfl (fun h2=>?_) (fun h2=>?_)
  ·refine VSt.go tb_ok false [] 200 rfl AllP.n ?_
   refine EndsP.mk rfl rfl rfl ?_
   show bv _=bv _
   rw [e,h2];rfl
  ·refine VSt.go tb_ok false [] 200 rfl AllP.n ?_
   refine EndsP.mk rfl rfl rfl ?_
   show bv _=bv _
   rw [e,h2];rfl
 ·refine VSt.go tb_ok false [] 200 rfl AllP.n ?_
  refine VSt.splitO 15 rfl (fun h3=>?_) (fun h3=>?_)
  ·have e:=snd true (by rw [h1,h3];rfl)
   refine VSt.go tb_ok false [] 200 rfl AllP.n ?_
   refine VSt.splitO 19 rfl (fun h2=>?_) (fun h2=>?_)
   ·refine VSt.go tb_ok false [] 200 rfl AllP.n ?_
    refine EndsP.mk rfl rfl rfl ?_
    show bv _=bv _
    rw [e,h2];rfl
   ·refine VSt.go tb_ok false [] 200 rfl AllP.n ?_
    refine EndsP.mk rfl rfl rfl ?_
    show bv _=bv _
    rw [e,h2];rfl
  ·have e:=snd false (by rw [h1,h3];rfl)
   refine VSt.go tb_ok false [] 200 rfl AllP.n ?_
   refine EndsP.mk rfl rfl rfl ?_
   show bv _=bv _
   rw [e];rfl
structure SzsW (l:List Opn):Prop where
 len:l.length<9223372036854775808
 each:∀ k,k<l.length→SzW (nth l k)
structure Szs (l:List Opn):Prop where
 len:l.length<1000000
 each:∀ k,k<l.length→Sz (nth l k)
theorem Szs.mem {l:List Opn} (h:Szs l) {o:Opn} (ho:o∈l):Sz o:=by
 obtain ⟨k,hk,rfl⟩:=mem_getD (d:=default) ho
 exact h.each k hk
theorem namedB_len {l:List Int} (h:namedB l=true):l.length≤8:=by
 unfold namedB at h
 rw [Bool.and_eq_true] at h
 exact of_decide_eq_true h.2
theorem OkO.sz {o:Opn} (h:OkO o):Sz o:=⟨by have:=namedB_len h.inn;omega,by have:=namedB_len h.out;omega⟩
theorem Reg.szs {l:List Opn} (h:Reg l):Szs l:=⟨by have:=h.len;omega,fun k hk=>(h.ok k hk).sz⟩
structure RegTo (l:List Opn) (k:Nat):Prop where
 ok:∀ i,i<k→OkO (nth l i)
 rise:∀ i,0<i→i<k→(nth l (i - 1)).source<(nth l i).source
 apart:∀ i,i<k→∀ j,j<i→hit (nth l j) (nth l i)=false
theorem RegTo.zero (l:List Opn):RegTo l 0:=⟨fun i hi=>absurd hi (Nat.not_lt_zero i),fun i _ hi=>absurd hi (Nat.not_lt_zero i),fun i hi=>absurd hi (Nat.not_lt_zero i)⟩
theorem RegTo.succ {l:List Opn} {k:Nat} (h:RegTo l k) (h1:OkO (nth l k)) (h2:0<k→(nth l (k - 1)).source<(nth l k).source) (h3:∀ j,j<k→hit (nth l j) (nth l k)=false):RegTo l (k+1):=by
 refine ⟨fun i hi=>?_,fun i h0 hi=>?_,fun i hi=>?_⟩
 ·by_cases e:i=k
  ·subst e;exact h1
  ·exact h.ok i (by omega)
 ·by_cases e:i=k
  ·subst e;exact h2 h0
  ·exact h.rise i h0 (by omega)
 ·by_cases e:i=k
  ·subst e;exact h3
  ·exact h.apart i (by omega)
theorem ckReg_bad {l:List Opn} (h:¬ Reg l):ckReg l=61:=if_neg h
theorem ckReg_good {l:List Opn} (h:RegTo l l.length) (hl:l.length≤60):ckReg l=0:=if_pos ⟨hl,h.ok,h.rise,h.apart⟩
theorem check_ok {b:Bool} {l:List Opn} (hz:SzsW l):VP (sE r) 50 [.p (eOpns b l)] (iv (ckReg l)):=by
 have hn:=hz.len
 refine VP.of (fn:=Tryz.f50) tb_ok (wk_ok rfl) (by kernel_rfl) rfl rfl rfl ?_
 refine VSt.go tb_ok false [] 200 rfl AllP.n ?_
 refine VSt.cond rfl (fun h1=>?_) (fun h1=>?_)
 ·have h1:=of_decide_eq_true h1
  refine VSt.go tb_ok false [] 200 rfl AllP.n ?_
  refine EndsP.mk rfl rfl rfl ?_
  rw [ckReg_bad fun h=>by have:=h.len;simp only [Int.ofNat_eq_natCast] at h1;omega];rfl
 have hl:l.length≤60:=by have h1:=of_decide_eq_false h1;simp only [Int.ofNat_eq_natCast] at h1;omega
 refine VSt.go tb_ok false [] 200 rfl AllP.n ?_
 refine VSt.rangeT tb_ok l.length (by omega) [0,10] (fun _=>[]) (fun _=>[]) (fun k=>RegTo l k) rfl rfl rfl (fun _=>rfl) rfl rfl u0_nil trivial (RegTo.zero l) (fun k hk hp=>?_) (fun hp=>?_)
 ·have hzk:=hz.each k hk
  refine VSt.go tb_ok false [] 200 rfl (AllP.c ‹_› (AllP.c rfl AllP.n)) ?_
  refine VSt.pcD rfl rfl rfl rfl rfl rfl rfl rfl ((ckO_ok (o:=nth l k) hzk)) ?_
  refine VSt.go tb_ok false [] 200 rfl AllP.n ?_
  refine VSt.splitD 20 rfl (fun a1=>?_) (fun a1=>?_)
  ·have a1:(!(ckO (nth l k)==0))=true:=a1
   refine VSt.go tb_ok false [] 200 rfl AllP.n ?_
   refine EndsP.mk rfl rfl rfl ?_
   rw [ckReg_bad fun h=>by rw [ckO_good (h.ok k hk)] at a1;cases a1];rfl
  have hO:OkO (nth l k):=Classical.byContradiction fun hno=>by
   have a1:(!(ckO (nth l k)==0))=false:=a1
   rw [ckO_bad hno] at a1;cases a1
  refine VSt.go tb_ok false [] 200 rfl AllP.n ?_
  refine VSt.splitD 23 rfl (fun a2=>?x1) (fun a2=>?x2)
  case' x1 =>
   have h0:=n0 a2
   refine VSt.go tb_ok false [27] 200 rfl (AllP.c (by unfold inR;(try simp only [Int.ofNat_eq_natCast]);omega) AllP.n) ?_
   refine VSt.putD 26 (nv (k - 1)) rfl (pred_iv h0) ?_
   refine VSt.go tb_ok false [] 200 rfl (AllP.c (by omega) (AllP.c rfl AllP.n)) ?_
   refine VSt.cond rfl (fun a3=>?_) (fun a3=>?_)
   ·have a3:(nth l k).source≤(nth l (k - 1)).source:=of_decide_eq_true a3
    refine VSt.go tb_ok false [] 200 rfl AllP.n ?_
    refine EndsP.mk rfl rfl rfl ?_
    rw [ckReg_bad fun h=>by have:=h.rise k h0 hk;omega];rfl
   have hri:0<k→(nth l (k - 1)).source<(nth l k).source:=fun _=>by have a3:¬ (nth l k).source≤(nth l (k - 1)).source:=of_decide_eq_false a3;omega
  case' x2 =>
   have hri:0<k→(nth l (k - 1)).source<(nth l k).source:=fun h=>absurd (n0' a2) (by omega)
  all_goals
   refine VSt.go tb_ok false [38] 200 rfl (AllP.c (by omega) (AllP.c (by omega) (AllP.c (fun _ _=>rfl) AllP.n))) ?_
   refine VSt.putO 37 (.p (.lst 45 b k fun j=>eOpn (nth l j))) rfl (AImp.lst fun j _=>by rw [Nat.zero_add]) ?_
   refine VSt.go tb_ok false [] 200 rfl AllP.n ?_
   refine VSt.viewC (Vw.kp [0,4,10,11,12,37,38,39] [(0,0)] rfl) ?_
   refine VSt.viewC (Vw.freezeC 0 (eOpn (nth l k)) rfl rfl) ?_
   refine VSt.rangeT tb_ok k (by omega) [0,4,10,11,12,37] (fun _=>[]) (fun _=>[]) (fun j=>∀ i,i<j→hit (nth l i) (nth l k)=false) rfl rfl rfl (fun _=>rfl) rfl rfl u0_nil trivial (fun i hi=>absurd hi (Nat.not_lt_zero i)) (fun j hj hq=>?_) (fun hq=>?_)
   ·have hjl:j<l.length:=by omega
    have bad:hit (nth l j) (nth l k)=true→ckReg l=61:=fun h=>ckReg_bad fun hR=>by rw [hR.apart k hk j hj] at h;cases h
    have step:hit (nth l j) (nth l k)=false→∀ i,i<j+1→hit (nth l i) (nth l k)=false:=fun h i hi=>by
     by_cases e:i=j
     ·subst e;exact h
     ·exact hq i (by omega)
    refine VSt.go tb_ok false [] 200 rfl (AllP.c ‹_› (AllP.c rfl AllP.n)) ?_
    refine VSt.splitO 48 rfl (fun b1=>?_) (fun b1=>?_)
    ·refine VSt.go tb_ok false [] 200 rfl AllP.n ?_
     refine VSt.pc rfl rfl rfl rfl rfl rfl rfl rfl ((meet_ok (nth l j) (nth l k))) ?_
     refine VSt.go tb_ok false [] 200 rfl AllP.n ?_
     refine VSt.splitO 53 rfl (fun b2=>?_) (fun b2=>?_)
     ·refine VSt.go tb_ok false [] 200 rfl AllP.n ?_
      refine VSt.pc rfl rfl rfl rfl rfl rfl rfl rfl ((ever_ok (nth l j) (nth l k))) ?_
      refine VSt.go tb_ok false [] 200 rfl AllP.n ?_
      refine VSt.cond rfl (fun b3=>?_) (fun b3=>?_)
      ·refine VSt.go tb_ok false [] 200 rfl AllP.n ?_
       refine EndsP.mk rfl rfl rfl ?_
       rw [bad (by unfold hit;rw [b1,b2,b3];rfl)];rfl
      ·refine VSt.go tb_ok false [] 200 rfl AllP.n ?_
       exact ⟨by (refine Vw.drop (by repeat (first | exact wf_nil | refine wf_back rfl rfl rfl ?_ | refine wf_cons rfl ‹_› (ren_only _ ‹_›) ?_))),step (by unfold hit;rw [b1,b2,b3];rfl)⟩
     ·refine VSt.go tb_ok false [] 200 rfl AllP.n ?_
      exact ⟨by (refine Vw.drop (by repeat (first | exact wf_nil | refine wf_back rfl rfl rfl ?_ | refine wf_cons rfl ‹_› (ren_only _ ‹_›) ?_))),step (by unfold hit;rw [b1,b2];rfl)⟩
    ·refine VSt.go tb_ok false [] 200 rfl AllP.n ?_
     exact ⟨by (refine Vw.drop (by repeat (first | exact wf_nil | refine wf_back rfl rfl rfl ?_ | refine wf_cons rfl ‹_› (ren_only _ ‹_›) ?_))),step (by unfold hit;rw [b1];rfl)⟩
   ·refine VSt.go tb_ok false [] 200 rfl AllP.n ?_
    exact ⟨by (refine Vw.drop (by repeat (first | exact wf_nil | refine wf_back rfl rfl rfl ?_ | refine wf_cons rfl ‹_› (ren_only _ ‹_›) ?_))),hp.succ hO hri hq⟩
 ·refine VSt.go tb_ok false [] 200 rfl AllP.n ?_
  refine EndsP.mk rfl rfl rfl ?_
  rw [ckReg_good hp hl];rfl
end Go.Proofs.YtbieflpgjmgaiaaGreat
/- Walks: the reference's checks of an opening, and of openings. -/
set_option maxRecDepth 100000
namespace Go.Proofs.YtbieflpgjmgaiaaGreat
variable {r:Rm}
theorem snoc_all {p:Nat→Prop} {k:Nat} (h:∀ i,i<k→p i) (hk:p k):∀ i,i<k+1→p i:=fun i hi=>by
 by_cases e:i=k
 ·subst e;exact hk
 ·exact h i (by omega)
theorem none0 {p:Nat→Prop}:∀ i,i<0→p i:=fun i hi=>absurd hi (Nat.not_lt_zero i)
end Go.Proofs.YtbieflpgjmgaiaaGreat
/- Walks: the reference's check of openings; what is asked. -/
set_option maxRecDepth 100000
namespace Go.Proofs.YtbieflpgjmgaiaaGreat
variable {r:Rm}
open Classical in
noncomputable def askE (l:List Opn) (d:Int):Int:=if Reg l then (if wth d 0 100000=true then 0 else 6) else 61
theorem askE_no {l:List Opn} {d:Int} (h:¬ Reg l):askE l d=61:=if_neg h
theorem askE_day {l:List Opn} {d:Int} (h:Reg l) (hd:wth d 0 100000=false):askE l d=6:=by unfold askE;rw [if_pos h,if_neg (by rw [hd];decide)]
theorem askE_yes {l:List Opn} {d:Int} (h:Reg l) (hd:wth d 0 100000=true):askE l d=0:=by unfold askE;rw [if_pos h,if_pos hd]
end Go.Proofs.YtbieflpgjmgaiaaGreat
/- Walks: what is looked at; the openings that count. -/
set_option maxRecDepth 100000
namespace Go.Proofs.YtbieflpgjmgaiaaGreat
variable {r:Rm}
theorem counts_ok (o:Opn) (d:Int):VP (sE r) 112 [.agg ((eOpn o).map .p),iv d] (bv (counts o d)):=by
 refine VP.of (fn:=Tryz.f112) tb_ok (wk_ok rfl) (by kernel_rfl) rfl rfl rfl ?_
 have two:∀ x:Bool,decide (o.known≤d)=x→counts o d=(x&&(o.until_==0||decide (d<o.until_))):=fun x h=>by unfold counts;rw [h]
 refine VSt.go tb_ok false [] 200 rfl AllP.n ?_
 refine VSt.splitO 9 rfl (fun h1=>?_) (fun h1=>?_)
 ·have e:=two true h1
  refine VSt.go tb_ok false [] 200 rfl AllP.n ?_
  refine VSt.splitO 13 rfl (fun h2=>?_) (fun h2=>?_)
  ·refine VSt.go tb_ok false [] 200 rfl AllP.n ?_
   refine EndsP.mk rfl rfl rfl ?_
   show bv _=bv _
   rw [e,h2];rfl
  ·refine VSt.go tb_ok false [] 200 rfl AllP.n ?_
   refine EndsP.mk rfl rfl rfl ?_
   show bv _=bv _
   rw [e,h2];rfl
 ·have e:=two false h1
  refine VSt.go tb_ok false [] 200 rfl AllP.n ?_
  refine EndsP.mk rfl rfl rfl ?_
  show bv _=bv _
  rw [e];rfl
theorem clash_ok {a b:Opn} (ha:Sz a) (hb:Sz b):VP (sE r) 119 [.agg ((eOpn a).map .p),.agg ((eOpn b).map .p)] (bv (clB a b)):=by
 have a1:=ha.inn
 have a2:=ha.out
 have b1:=hb.inn
 have b2:=hb.out
 refine VP.of (fn:=Tryz.f119) tb_ok (wk_ok rfl) (by kernel_rfl) rfl rfl rfl ?_
 refine VSt.go tb_ok false [] 200 rfl AllP.n ?_
 refine VSt.splitO 10 rfl (fun h1=>?_) (fun h1=>?_)
 ·have h1:(!(a.register==b.register))=true:=h1
  refine VSt.go tb_ok false [] 200 rfl AllP.n ?_
  refine VSt.pc rfl rfl rfl rfl rfl rfl rfl rfl ((meet_ok a b)) ?_
  refine VSt.go tb_ok false [] 200 rfl AllP.n ?_
  refine VSt.splitO 15 rfl (fun h2=>?_) (fun h2=>?_)
  ·refine VSt.go tb_ok false [] 200 rfl AllP.n ?_
   refine VSt.pc rfl rfl rfl rfl rfl rfl rfl rfl ((common_ok (b:=a.inB) (b2:=b.outB) (l:=a.inn) (m:=b.out) a1 b2)) ?_
   refine VSt.go tb_ok false [] 200 rfl AllP.n ?_
   refine VSt.splitO 21 rfl (fun h3=>?_) (fun h3=>?_)
   ·refine VSt.go tb_ok false [] 200 rfl AllP.n ?_
    refine EndsP.mk rfl rfl rfl ?_
    show bv _=bv _
    unfold clB;rw [h1,h2,h3];rfl
   ·refine VSt.go tb_ok false [] 200 rfl AllP.n ?_
    refine VSt.pc rfl rfl rfl rfl rfl rfl rfl rfl ((common_ok (b:=a.outB) (b2:=b.inB) (l:=a.out) (m:=b.inn) a2 b1)) ?_
    refine VSt.go tb_ok false [] 200 rfl AllP.n ?_
    refine EndsP.mk rfl rfl rfl ?_
    show bv _=bv _
    unfold clB;rw [h1,h2,h3];rfl
  ·refine VSt.go tb_ok false [] 200 rfl AllP.n ?_
   refine EndsP.mk rfl rfl rfl ?_
   show bv _=bv _
   unfold clB;rw [h1,h2];rfl
 ·have h1:(!(a.register==b.register))=false:=h1
  refine VSt.go tb_ok false [] 200 rfl AllP.n ?_
  refine EndsP.mk rfl rfl rfl ?_
  show bv _=bv _
  unfold clB;rw [h1];rfl
def ansI (yes no:Bool):Int:=if yes&&no then 2 else if yes then 1 else 0
theorem answer_ok (yes no:Bool):VP (sE r) 68 [bv yes,bv no] (iv (ansI yes no)):=by
 refine VP.of (fn:=Tryz.f68) tb_ok (wk_ok rfl) (by kernel_rfl) rfl rfl rfl ?_
 refine VSt.go tb_ok false [] 200 rfl AllP.n ?_
 refine VSt.splitO 7 rfl (fun h1=>?_) (fun h1=>?_)
 ·have h1:yes=true:=h1
  refine VSt.go tb_ok false [] 200 rfl AllP.n ?_
  refine VSt.cond rfl (fun h2=>?_) (fun h2=>?_)
  ·have h2:no=true:=h2
   refine VSt.go tb_ok false [] 200 rfl AllP.n ?_
   refine EndsP.mk rfl rfl rfl ?_
   rw [h1,h2];rfl
  ·have h2:no=false:=h2
   refine VSt.go tb_ok false [] 200 rfl AllP.n ?_
   refine VSt.cond rfl (fun h3=>?_) (fun h3=>?_)
   ·refine VSt.go tb_ok false [] 200 rfl AllP.n ?_
    refine EndsP.mk rfl rfl rfl ?_
    rw [h1,h2];rfl
   ·have h3:yes=false:=h3
    rw [h1] at h3;cases h3
 ·have h1:yes=false:=h1
  refine VSt.go tb_ok false [] 200 rfl AllP.n ?_
  refine VSt.cond rfl (fun h3=>?_) (fun _=>?_)
  ·have h3:yes=true:=h3
   rw [h1] at h3;cases h3
  refine VSt.go tb_ok false [] 200 rfl AllP.n ?_
  refine EndsP.mk rfl rfl rfl ?_
  rw [h1];rfl
def eKn (b:Bool) (l:List Opn) (d:Int):List PV:=[eOpns b l,.int .i64 d,.nilm]
def knP (b:Bool) (l:List Opn) (d:Int):PV:=.fp (eKn b l d) 0
def knB (b:Bool) (l:List Opn) (d:Int):PV:=.fp [knP b l d] 0
def knF (b:Bool) (l:List Opn) (d:Int):AV:=.fn 111 [] [.p (knB b l d)]
theorem counting_ok (b:Bool) (l:List Opn) (d:Int):VP (sE r) 73 [.p (knP b l d)] (knF b l d):=by
 refine VP.of (fn:=Tryz.f73) tb_ok (wk_ok rfl) (by kernel_rfl) rfl rfl rfl ?_
 refine VSt.go tb_ok false [3] 200 rfl AllP.n ?_
 refine VSt.viewO (Vw.freezeC 0 [knP b l d] rfl rfl) ?_
 refine VSt.go tb_ok false [] 200 rfl AllP.n ?_
 exact EndsP.mk rfl rfl rfl rfl
def dayB (ds:List Int) (k:Nat):Bool:=wth (ds.getD k 0) 0 100000
open Classical in
noncomputable def lookE (l:List Opn) (ds:List Int):Int:=if Reg l then (if allB (dayB ds) ds.length then 0 else 6) else 61
open Classical in
noncomputable def lookP (b:Bool) (l:List Opn) (ds:List Int):PV:=if lookE l ds=0 then knP b l (ds.getD (ds.length - 1) 0) else .nilp
theorem look_no {l:List Opn} {ds:List Int} (b:Bool) (h:¬ Reg l):lookE l ds=61∧lookP b l ds = .nilp:=by
 have e:lookE l ds=61:=if_neg h
 exact ⟨e,by unfold lookP;rw [if_neg (by rw [e];decide)]⟩
theorem look_day {l:List Opn} {ds:List Int} (b:Bool) {k:Nat} (h:Reg l) (hk:k<ds.length) (hd:dayB ds k=false):lookE l ds=6∧lookP b l ds = .nilp:=by
 have e:lookE l ds=6:=by unfold lookE;rw [if_pos h,if_neg (by rw [allB_not hk hd];decide)]
 exact ⟨e,by unfold lookP;rw [if_neg (by rw [e];decide)]⟩
theorem look_yes {l:List Opn} {ds:List Int} (b:Bool) (h:Reg l) (hd:∀ k,k<ds.length→dayB ds k=true):lookE l ds=0∧lookP b l ds=knP b l (ds.getD (ds.length - 1) 0):=by
 have e:lookE l ds=0:=by unfold lookE;rw [if_pos h,if_pos (allB_iff.2 hd)]
 exact ⟨e,by unfold lookP;rw [if_pos e]⟩
theorem look_ok {b:Bool} {l:List Opn} {ds:List Int} (hz:SzsW l) (h0:0<ds.length) (hn:ds.length<1000000):VP (sE r) 53 [.p (eOpns b l),.p (eInts false ds)] (.tup [.p (lookP b l ds),iv (lookE l ds)]):=by
 have hc:=check_ok (r:=r) (b:=b) hz
 refine VP.of (fn:=Tryz.f53) tb_ok (wk_ok rfl) (by kernel_rfl) rfl rfl rfl ?_
 refine VSt.go tb_ok false [] 200 rfl AllP.n ?_
 rcases ckReg_or l with ⟨hR,e⟩ | ⟨hR,e⟩
 ·rw [e] at hc
  refine VSt.pc rfl rfl rfl rfl rfl rfl rfl rfl (hc) ?_
  refine VSt.go tb_ok false [] 200 rfl AllP.n ?_
  refine VSt.cond rfl (fun h=>absurd h (by decide)) (fun _=>?_)
  refine VSt.go tb_ok false [] 200 rfl AllP.n ?_
  refine VSt.rangeT tb_ok ds.length (by omega) [0,1,14] (fun _=>[]) (fun _=>[]) (fun k=>∀ i,i<k→dayB ds i=true) rfl rfl rfl (fun _=>rfl) rfl rfl u0_nil trivial none0 (fun k hk hp=>?_) (fun hp=>?_)
  ·refine VSt.go tb_ok false [] 200 rfl (AllP.c ‹_› (AllP.c rfl AllP.n)) ?_
   refine VSt.pc rfl rfl rfl rfl rfl rfl rfl rfl ((isDay_ok (ds.getD k 0))) ?_
   refine VSt.go tb_ok false [] 200 rfl AllP.n ?_
   refine VSt.cond rfl (fun h=>?_) (fun h=>?_)
   ·have hE:=look_day b hR hk (nt h)
    refine VSt.go tb_ok false [] 200 rfl AllP.n ?_
    refine EndsP.mk rfl rfl rfl ?_
    rw [hE.1,hE.2];rfl
   ·refine VSt.go tb_ok false [] 200 rfl AllP.n ?_
    exact ⟨by (refine Vw.drop (by repeat (first | exact wf_nil | refine wf_back rfl rfl rfl ?_ | refine wf_cons rfl ‹_› (ren_only _ ‹_›) ?_))),snoc_all hp (nf h)⟩
  ·have hE:=look_yes b hR hp
   refine VSt.go tb_ok false [30] 200 rfl (AllP.c (by unfold inR;(try simp only [Int.ofNat_eq_natCast]);omega) AllP.n) ?_
   refine VSt.putO 29 (nv (ds.length - 1)) rfl (pred_iv h0) ?_
   refine VSt.go tb_ok false [4] 200 rfl (AllP.c (by omega) (AllP.c rfl AllP.n)) ?_
   refine VSt.viewO (Vw.freezeC 0 (eKn b l (ds.getD (ds.length - 1) 0)) rfl rfl) ?_
   refine VSt.go tb_ok false [] 200 rfl AllP.n ?_
   refine EndsP.mk rfl rfl rfl ?_
   rw [hE.1,hE.2];rfl
 ·have hE:=look_no (ds:=ds) b hR
  rw [e] at hc
  refine VSt.pc rfl rfl rfl rfl rfl rfl rfl rfl (hc) ?_
  refine VSt.go tb_ok false [] 200 rfl AllP.n ?_
  refine VSt.cond rfl (fun _=>?_) (fun h=>absurd h (by decide))
  refine VSt.go tb_ok false [] 200 rfl AllP.n ?_
  refine EndsP.mk rfl rfl rfl ?_
  rw [hE.1,hE.2];rfl
end Go.Proofs.YtbieflpgjmgaiaaGreat
/- Walks: the iterator of the openings that count, for any loop's body. -/
set_option maxRecDepth 100000
namespace Go.Proofs.YtbieflpgjmgaiaaGreat
variable {r:Rm}
theorem all_inB (s:List Nat):(s.all (inB s))=true:=by
 rw [List.all_eq_true]
 intro x hx
 unfold inB
 rw [List.any_eq_true]
 exact ⟨x,hx,Nat.beq_refl x⟩
def RoundE (r:Rm) (N:Nat) (s:List Nat) (G:VK) (ps:List Tmp) (asg body:Code) (I J:VS→Prop):VPost:=fun e F2 L2 =>
 (e = .normal∧∃ F0 L',Vw (sE r) (0::s) F2 L2 F0 ((0,.loop .busy none G N ps asg body)::L')∧I L')∨(e = .ret∧∃ F0 L' G3,Vw (sE r) (0::s) F2 L2 F0 ((0,.loop .busy none G3 N ps asg body)::L')∧J L')
def RoundA (r:Rm) (N:Nat) (s:List Nat) (G:VK) (ps:List Tmp) (asg body:Code) (I J:VS→Prop):VPost:=fun e F1 L1 =>
 e = .normal∧∃ G2,bk L1 0=some (.loop .ready none G2 N ps asg body)∧VSt.H (sE r) N (0::s) none (RoundE r N s G ps asg body I J) (.code body [] F1 (up L1 0 (.loop .busy none G2 N ps asg body)))
def IterR (N n:Nat) (G:VK) (ps:List Tmp) (asg body:Code) (I:Nat→VS→Prop) (J:VS→Prop) (L':VS):Prop :=
 (∃ L,I n L∧L'=(0,.loop .ready none G N ps asg body)::L)∨(∃ G2 L,J L∧L'=(0,.loop .done (some .ret) G2 N ps asg body)::L)
theorem cnt1_ok {b:Bool} {l:List Opn} {d:Int} (hl:l.length<1000000) {N:Nat} {G:VK} {G1:Nat→VK} {ps:List Tmp} {asg body:Code} {L0:VS} (s:List Nat) (I:Nat→VS→Prop) (J:VS→Prop) (hI:I 0 L0) (hk:∀ k,bindK N ps [.agg ((eOpn (nth l k)).map .p)] G=some (G1 k))
  (hskip:∀ k L,k<l.length→counts (nth l k) d=false→I k L→I (k+1) L)
  (hround:∀ k L,k<l.length→counts (nth l k) d=true→I k L→VSt.H (sE r) N (0::s) none (RoundA r N s G ps asg body (I (k+1)) J) (.code asg [] (G1 k) ((0,.loop .ready none G N ps asg body)::L))) :
  VC (sE r) (0::s) 111 [.yld 0,.p (knB b l d)] ((0,.loop .ready none G N ps asg body)::L0) (fun _ L'=>IterR N l.length G ps asg body I J L'):=by
 refine VC.of0 (fn:=Tryz.f111) tb_ok (wk_ok rfl) (by kernel_rfl) rfl rfl ?_
 refine VSt.run tb_ok false [] 200 rfl AllP.n ?_
 refine VSt.range tb_ok l.length (by omega) (fun k F L=>F=[(9,.p (eOpns b l)),(1,.p (knB b l d)),(0,.yld 0)]∧∃ L1,L=(0,.loop .ready none G N ps asg body)::L1∧I k L1) rfl rfl
  ⟨[(9,.p (eOpns b l)),(1,.p (knB b l d)),(0,.yld 0)],(0,.loop .ready none G N ps asg body)::L0,(by (refine Vw.sub' (subK (by repeat (first | exact sk_nil | refine sk_cons rfl ?_))))),rfl,L0,rfl,hI⟩ ?_ ?_
 ·rintro k F L hk1 ⟨rfl,L1,rfl,hL⟩
  refine VSt.run tb_ok false [4] 200 rfl (AllP.c ‹_› (AllP.c rfl AllP.n)) ?_
  refine VSt.aside (eOpn (nth l k)) tb_ok rfl rfl rfl rfl rfl rfl rfl rfl rfl rfl rfl ?_
  refine VSt.run tb_ok false [] 200 rfl AllP.n ?_
  refine VSt.pcD rfl rfl rfl rfl rfl rfl rfl rfl ((counts_ok (nth l k) d)) ?_
  refine VSt.run tb_ok false [] 200 rfl AllP.n ?_
  refine VSt.splitD 21 rfl (fun h=>?_) (fun h=>?_)
  ·refine VSt.run tb_ok false [] 200 rfl AllP.n ?_
   refine VSt.splitD 31 rfl (fun h3=>?_) (fun h3=>?_)
   ·refine VSt.run tb_ok false [] 200 rfl AllP.n ?_
    refine VSt.yieldD (0::s) rfl rfl rfl rfl rfl rfl rfl (hk k) rfl rfl (all_inB _) rfl (VW.mono (hround k L1 hk1 h hL) ?_)
    refine fun e F1 L1' h=>⟨h.1,h.2.elim fun G2 h2=>⟨G2,h2.1,VW.mono h2.2 ?_⟩⟩
    refine fun e F2 L2 h=>?_
    rcases h with ⟨he,F0,L',hw,hI'⟩ | ⟨he,F0,L',G3,hw,hJ⟩
    ·subst he
     refine ⟨F0,_,none,G,hw,rfl,?_⟩
     refine VSt.run tb_ok false [] 200 rfl AllP.n ?_
     exact ⟨_,_,(by (refine Vw.sub' (subK (by repeat (first | exact sk_nil | refine sk_cons rfl ?_))))),⟨rfl,L',rfl,hI'⟩,rfl⟩
    ·subst he
     refine ⟨F0,_,none,G3,hw,rfl,?_⟩
     refine VSt.run tb_ok false [] 200 rfl AllP.n ?_
     exact ⟨rfl,_,rfl,.inr ⟨G3,L',hJ,rfl⟩⟩
   ·exact absurd h3 (by decide)
  ·refine VSt.run tb_ok false [] 200 rfl AllP.n ?_
   exact ⟨_,_,(by (refine Vw.sub' (subK (by repeat (first | exact sk_nil | refine sk_cons rfl ?_))))),⟨rfl,L1,rfl,hskip k L1 hk1 h hL⟩,rfl⟩
 ·rintro F L ⟨rfl,L1,rfl,hL⟩
  refine VSt.run tb_ok false [] 200 rfl AllP.n ?_
  exact ⟨rfl,_,rfl,.inl ⟨L1,hL,rfl⟩⟩
def barP (bar:Nat→Bool):Nat→Option PV:=fun k=>bif bar k then some (.bool true) else none
def kmem (b:Bool) (l:List Opn) (d:Int) (bar:Nat→Bool):VS:=[(1,.cells [.ref 2 0] 70),(2,.cells [.p (eOpns b l),iv d,.map 3] 98),(3,.mapA none (barP bar) [])]
theorem cnt1B_ok {b:Bool} {l:List Opn} {d:Int} {bar:Nat→Bool} (hl:l.length<1000000) (hv:∀ k,k<l.length→(nth l k).source=Int.ofNat (src (nth l k))) {N:Nat} {G:VK} {G1:Nat→VK} {ps:List Tmp} {asg body:Code} {L0:VS} (s:List Nat) (I:Nat→VS→Prop) (J:VS→Prop) (hI:I 0 L0) (hsh:∀ k L,I k L→∃ L1,L=kmem b l d bar++L1) (hk:∀ k,bindK N ps [.agg ((eOpn (nth l k)).map .p)] G=some (G1 k))
  (hskip:∀ k L,k<l.length→(counts (nth l k) d && !bar (src (nth l k)))=false→I k L→I (k+1) L)
  (hround:∀ k L,k<l.length→(counts (nth l k) d && !bar (src (nth l k)))=true→I k L→VSt.H (sE r) N (0::1::2::3::s) none (RoundA r N (1::2::3::s) G ps asg body (I (k+1)) J) (.code asg [] (G1 k) ((0,.loop .ready none G N ps asg body)::L))) :
  VC (sE r) (0::1::2::3::s) 111 [.yld 0,.ref 1 0] ((0,.loop .ready none G N ps asg body)::L0) (fun _ L'=>IterR N l.length G ps asg body I J L'):=by
 refine VC.of0 (fn:=Tryz.f111) tb_ok (wk_ok rfl) (by kernel_rfl) rfl rfl ?_
 refine Exists.elim (hsh 0 L0 hI) fun L00 h00=>?_
 rw [h00]
 unfold kmem
 rw [List.cons_append,List.cons_append,List.cons_append,List.nil_append]
 refine VSt.run tb_ok false [] 200 rfl AllP.n ?_
 refine VSt.range tb_ok l.length (by omega) (fun k F L=>F=[(9,.p (eOpns b l)),(1,.ref 1 0),(0,.yld 0)]∧∃ L1,L=(0,.loop .ready none G N ps asg body)::L1∧I k L1) rfl rfl
  ⟨[(9,.p (eOpns b l)),(1,.ref 1 0),(0,.yld 0)],(0,.loop .ready none G N ps asg body)::L0,(by rw [h00];(refine Vw.sub' (subK (by repeat (first | exact sk_nil | refine sk_cons rfl ?_))))),rfl,L0,rfl,hI⟩ ?_ ?_
 ·rintro k F L hk1 ⟨rfl,L2,rfl,hL⟩
  refine Exists.elim (hsh k L2 hL) fun L1 h1=>?_
  subst h1
  have hL':=hL
  unfold kmem
  rw [List.cons_append,List.cons_append,List.cons_append,List.nil_append]
  unfold kmem at hL'
  rw [List.cons_append,List.cons_append,List.cons_append,List.nil_append] at hL'
  refine VSt.run tb_ok false [4] 200 rfl (AllP.c ‹_› (AllP.c rfl AllP.n)) ?_
  refine VSt.aside (eOpn (nth l k)) tb_ok rfl rfl rfl rfl rfl rfl rfl rfl rfl rfl rfl ?_
  refine VSt.run tb_ok false [] 200 rfl AllP.n ?_
  refine VSt.pcD rfl rfl rfl rfl rfl rfl rfl rfl ((counts_ok (nth l k) d)) ?_
  refine VSt.run tb_ok false [] 200 rfl AllP.n ?_
  refine VSt.splitD 21 rfl (fun h=>?_) (fun h=>?_)
  ·have h:counts (nth l k) d=true:=h
   refine VSt.run tb_ok false [28] 200 rfl AllP.n ?_
   refine VSt.putD 27 (nv (src (nth l k))) rfl (iv_nv (hv k hk1)) ?_
   refine VSt.run tb_ok false [29] 200 rfl AllP.n ?_
   refine VSt.putD 28 (bv (bar (src (nth l k)))) rfl (AImp.of_eq (by show AV.p ((barP bar _).getD _)=_;unfold barP;cases bar (src (nth l k)) <;> rfl)) ?_
   refine VSt.run tb_ok false [] 200 rfl AllP.n ?_
   refine VSt.splitD 31 rfl (fun h3=>?_) (fun h3=>?_)
   ·have h3:(!bar (src (nth l k)))=true:=h3
    refine VSt.run tb_ok false [] 200 rfl AllP.n ?_
    refine VSt.yieldD (0::1::2::3::s) rfl rfl rfl rfl rfl rfl rfl (hk k) rfl rfl (all_inB _) rfl (VW.mono (hround k _ hk1 (by rw [h,h3];rfl) hL') ?_)
    refine fun e F1 L1' h=>⟨h.1,h.2.elim fun G2 h2=>⟨G2,h2.1,VW.mono h2.2 ?_⟩⟩
    refine fun e F2 L2 h=>?_
    rcases h with ⟨he,F0,L',hw,hI'⟩ | ⟨he,F0,L',G3,hw,hJ⟩
    ·subst he
     refine ⟨F0,_,none,G,hw,rfl,?_⟩
     refine VSt.run tb_ok false [] 200 rfl AllP.n ?_
     exact ⟨_,_,(by (refine Vw.sub' (subK (by repeat (first | exact sk_nil | refine sk_cons rfl ?_))))),⟨rfl,L',rfl,hI'⟩,rfl⟩
    ·subst he
     refine ⟨F0,_,none,G3,hw,rfl,?_⟩
     refine VSt.run tb_ok false [] 200 rfl AllP.n ?_
     exact ⟨rfl,_,rfl,.inr ⟨G3,L',hJ,rfl⟩⟩
   ·have h3:(!bar (src (nth l k)))=false:=h3
    refine VSt.run tb_ok false [] 200 rfl AllP.n ?_
    exact ⟨_,_,(by (refine Vw.sub' (subK (by repeat (first | exact sk_nil | refine sk_cons rfl ?_))))),⟨rfl,_,rfl,hskip k _ hk1 (by rw [h,h3];rfl) hL'⟩,rfl⟩
  ·have h:counts (nth l k) d=false:=h
   refine VSt.run tb_ok false [] 200 rfl AllP.n ?_
   exact ⟨_,_,(by (refine Vw.sub' (subK (by repeat (first | exact sk_nil | refine sk_cons rfl ?_))))),⟨rfl,_,rfl,hskip k _ hk1 (by rw [h];rfl) hL'⟩,rfl⟩
 ·rintro F L ⟨rfl,L1,rfl,hL⟩
  refine VSt.run tb_ok false [] 200 rfl AllP.n ?_
  exact ⟨rfl,_,rfl,.inl ⟨L1,hL,rfl⟩⟩
end Go.Proofs.YtbieflpgjmgaiaaGreat
/- Walks: the opening with a source; those against one. -/
set_option maxRecDepth 100000
namespace Go.Proofs.YtbieflpgjmgaiaaGreat
variable {r:Rm}
theorem AImp.agg {cs ds:List AV} (h:AImps cs ds):AImp (.agg cs) (.agg ds):=fun E S Z j v hv=>by
 cases hv with
 | agg hs hv=>exact .agg hs (h.vrs hv)
theorem AImp.tup {cs ds:List AV} (h:AImps cs ds):AImp (.tup cs) (.tup ds):=fun E S Z j v hv=>by
 cases hv with
 | tup hv=>exact .tup (h.vrs hv)
def nb:Nat→Bool:=fun _=>false
theorem cnt_nb (l:List Opn) (d:Int):cnt l d nb=l.filter fun o=>counts o d:=by
 unfold cnt nb
 congr 1;funext o;simp
def fnd (l:List Opn) (d s:Int):Option Opn:=(cnt l d nb).find? fun o=>o.source==s
theorem fnd_eq (l:List Opn) (d s:Int):fnd l d s=l.find? fun o=>counts o d&&o.source==s:=by
 unfold fnd
 rw [cnt_nb,List.find?_filter]
 congr 1;funext o;rw [Bool.eq_iff_iff];simp
theorem fnd_hit {l:List Opn} {d s:Int} {k:Nat} (hk:k<l.length) (h:(counts (nth l k) d&&(nth l k).source==s)=true) (hb:∀ i,i<k→(counts (nth l i) d&&(nth l i).source==s)=false):fnd l d s=some (nth l k):=by
 rw [fnd_eq,List.find?_eq_some_iff_getElem]
 refine ⟨h,k,hk,(getD_get hk).symm,fun i hi=>?_⟩
 have:=hb i hi
 unfold nth at this
 rw [getD_get (by omega)] at this
 rw [this];rfl
theorem fnd_miss {l:List Opn} {d s:Int} (hb:∀ i,i<l.length→(counts (nth l i) d&&(nth l i).source==s)=false):fnd l d s=none:=by
 rw [fnd_eq,List.find?_eq_none]
 intro x hx
 obtain ⟨k,hk,rfl⟩:=mem_getD (d:=default) hx
 rw [show (counts (l.getD k default) d&&(l.getD k default).source==s)=false from hb k hk];decide
theorem fnd_mem {l:List Opn} {d s:Int} {o:Opn} (h:fnd l d s=some o):o∈cnt l d nb∧o.source=s:=by
 unfold fnd at h
 exact ⟨List.mem_of_find?_eq_some h,by have:=List.find?_some h;simpa using this⟩
def zO:List PV:=[.int .i64 0,.int .i64 0,.int .i64 0,.int .i64 0,.int .i64 0,.lst 0 true 0 (fun _=>[]),.lst 0 true 0 (fun _=>[]),.int .i64 0,.int .i64 0]
theorem zO_imp:AImp (.agg (zO.map .p)) (.agg ((eOpn default).map .p)):=AImp.agg ⟨AImp.refl _,AImp.refl _,AImp.refl _,AImp.refl _,AImp.refl _,AImp.nil,AImp.nil,AImp.refl _,AImp.refl _,trivial⟩
def oneA' (l:List Opn) (d s:Int):AV:=.tup [.agg ((eOpn ((fnd l d s).getD default)).map .p),bv (fnd l d s).isSome]
theorem one_ok {b:Bool} {l:List Opn} {d:Int} (s:Int) (hz:Szs l):VP (sE r) 54 [.p (knP b l d),iv s] (oneA' l d s):=by
 have hn:=hz.len
 refine VP.of (fn:=Tryz.f54) tb_ok (wk_ok rfl) (by kernel_rfl) rfl rfl rfl ?_
 refine VSt.go tb_ok false [3] 200 rfl AllP.n ?_
 refine VSt.asideB [.int .i64 s] rfl rfl rfl rfl rfl rfl ?_
 refine VSt.go tb_ok false [] 200 rfl AllP.n ?_
 refine VSt.pc rfl rfl rfl rfl rfl rfl rfl rfl ((counting_ok b l d)) ?_
 refine VSt.go tb_ok false [] 200 rfl AllP.n ?_
 refine VSt.viewC (Vw.kp [3,4,5,8] [(0,0),(1,1)] rfl) ?_
 refine VSt.rangeFuncG [(0,2),(1,0),(2,1)] (stc:=[0,1,2]) rfl rfl rfl rfl rfl rfl rfl rfl (cnt1_ok (b:=b) (l:=l) (d:=d) (by omega) (G1:=fun k=>(9,.agg ((eOpn (nth l k)).map .p))::[(3,.p (.fp [.int .i64 s] 0)),(4,.ref 1 0),(5,.ref 2 0),(8,knF b l d)]) [1,2]
  (fun k L=>L=[(1,.cells (zO.map .p) 45),(2,.cells [bv false] 4)]∧∀ i,i<k→(counts (nth l i) d&&(nth l i).source==s)=false)
  (fun L=>∃ k,k<l.length∧(counts (nth l k) d&&(nth l k).source==s)=true∧(∀ i,i<k→(counts (nth l i) d&&(nth l i).source==s)=false)∧L=[(1,.cells ((eOpn (nth l k)).map .p) 45),(2,.cells [bv true] 4)]) ⟨rfl,none0⟩ (fun _=>rfl) ?_ ?_) ?_
 ·rintro k L hk hc ⟨rfl,hp⟩
  exact ⟨rfl,snoc_all hp (by rw [hc];rfl)⟩
 ·rintro k L hk hc ⟨rfl,hp⟩
  refine VSt.go tb_ok false [6] 200 rfl AllP.n ?_
  refine VSt.aside (eOpn (nth l k)) tb_ok rfl rfl rfl rfl rfl rfl rfl rfl rfl rfl rfl ?_
  refine VSt.go tb_ok false [] 200 rfl AllP.n ?_
  refine ⟨rfl,_,rfl,?_⟩
  refine VSt.go tb_ok false [] 200 rfl AllP.n ?_
  refine VSt.cond rfl (fun h1=>?_) (fun h1=>?_)
  ·have h1:((nth l k).source==s)=true:=h1
   refine VSt.go tb_ok false [] 200 rfl AllP.n ?_
   exact .inr ⟨rfl,[],_,_,by refine Wk.vw (ps:=[(0,0),(1,1),(2,2)]) ⟨rfl,rfl,(by repeat (first | exact wf_nil | refine wf_back rfl rfl rfl ?_)),_,rfl,((LImp.refl _))⟩,k,hk,by rw [hc,h1];rfl,hp,rfl⟩
  ·have h1:((nth l k).source==s)=false:=h1
   refine VSt.go tb_ok false [] 200 rfl AllP.n ?_
   exact .inl ⟨rfl,[],_,by refine Wk.vw (ps:=[(0,0),(1,1),(2,2)]) ⟨rfl,rfl,(by repeat (first | exact wf_nil | refine wf_back rfl rfl rfl ?_)),_,rfl,((LImp.refl _))⟩,rfl,snoc_all hp (by rw [hc,h1];rfl)⟩
 ·rintro a L' (⟨L,⟨rfl,hp⟩,rfl⟩ | ⟨G2,L,⟨k,hk,h1,hp,rfl⟩,rfl⟩)
  ·have e:oneA' l d s = .tup [.agg ((eOpn default).map .p),bv false]:=by unfold oneA';rw [fnd_miss hp];rfl
   refine ⟨_,_,_,_,_,_,_,_,rfl,rfl,rfl,?_⟩
   refine VSt.go tb_ok false [] 200 rfl AllP.n ?_
   refine ⟨rfl,_,rfl,rfl,?_⟩
   rw [e]
   exact AImp.tup ⟨zO_imp,AImp.refl _,trivial⟩
  ·have e:oneA' l d s = .tup [.agg ((eOpn (nth l k)).map .p),bv true]:=by unfold oneA';rw [fnd_hit hk h1 hp];rfl
   refine ⟨_,_,_,_,_,_,_,_,rfl,rfl,rfl,?_⟩
   refine VSt.go tb_ok false [] 200 rfl AllP.n ?_
   refine EndsP.mk rfl rfl rfl ?_
   rw [e];rfl
def fL (l:List Int):Nat→List PV:=fun q=>[.int .i64 (l.getD q 0)]
def memL (i j:Nat) (l:List Int):VS:=[(i,.cells [.acc true j 1 l.length] 32),(j,.acc l.length 1 (fL l) 3)]
theorem app_int (l:List Int) (y:Int) (q:Nat) (hq:q<l.length+1):(bif Nat.blt q l.length then fL l q else ([PV.int .i64 y].drop ((q - l.length)*1)).take 1)=fL (l++[y]) q:=by
 unfold fL
 by_cases e:q<l.length
 ·rw [blt_t e]
  simp only [cond_true,List.getD_eq_getElem?_getD]
  rw [List.getElem?_append_left e]
 ·have:q=l.length:=by omega
  subst this
  rw [blt_f e,Nat.sub_self]
  simp
def preL {α : Type} (l:List Opn) (p:Opn→Bool) (f:Opn→α) (k:Nat):List α :=((l.take k).filter p).map f
theorem take_nth {l:List Opn} {k:Nat} (h:k<l.length):l.take (k+1)=l.take k++[nth l k]:=by
 unfold nth
 rw [List.take_add_one,List.getElem?_eq_getElem h,getD_get h];rfl
theorem preL_t {α : Type} {l:List Opn} {p:Opn→Bool} {f:Opn→α} {k:Nat} (h:k<l.length) (hp:p (nth l k)=true):preL l p f (k+1)=preL l p f k++[f (nth l k)]:=by
 unfold preL
 rw [take_nth h,List.filter_append,List.map_append]
 simp [hp]
theorem preL_f {α : Type} {l:List Opn} {p:Opn→Bool} {f:Opn→α} {k:Nat} (h:k<l.length) (hp:p (nth l k)=false):preL l p f (k+1)=preL l p f k:=by
 unfold preL
 rw [take_nth h,List.filter_append,List.map_append]
 simp [hp]
theorem preL_all {α : Type} {l:List Opn} {p:Opn→Bool} {f:Opn→α}:preL l p f l.length=(l.filter p).map f:=by
 unfold preL;rw [List.take_length]
theorem preL_len {α : Type} {l:List Opn} {p:Opn→Bool} {f:Opn→α} {k:Nat}:(preL l p f k).length≤l.length:=by
 unfold preL
 rw [List.length_map]
 exact Nat.le_trans (List.length_filter_le _ _) (List.length_take_le' ..)
def agnL (l:List Opn) (d:Int) (o:Opn):List Int:=(l.filter fun x=>counts x d&&clB o x).map (·.source)
theorem acc_eInts {j:Nat} {l:List Int} {n:Nat} (hn:n=l.length):(AV.p (.lst 3 (true&&Nat.beq n 0) n (fL l))) = .p (eInts l.isEmpty l):=by
 subst hn
 cases l <;> rfl
theorem against_ok {b:Bool} {l:List Opn} {d:Int} {o:Opn} (hz:Szs l) (ho:Sz o):VP (sE r) 110 [.p (knP b l d),.agg ((eOpn o).map .p)] (.p (eInts (agnL l d o).isEmpty (agnL l d o))):=by
 have hn:=hz.len
 refine VP.of (fn:=Tryz.f110) tb_ok (wk_ok rfl) (by kernel_rfl) rfl rfl rfl ?_
 refine VSt.go tb_ok false [3] 200 rfl AllP.n ?_
 refine VSt.asideB (eOpn o) rfl rfl rfl rfl rfl rfl ?_
 refine VSt.go tb_ok false [] 200 rfl AllP.n ?_
 refine VSt.pc rfl rfl rfl rfl rfl rfl rfl rfl ((counting_ok b l d)) ?_
 refine VSt.go tb_ok false [] 200 rfl AllP.n ?_
 refine VSt.viewC (Vw.kp [3,5,8] [(0,0)] rfl) ?_
 refine VSt.viewC (Vw.adopt 1 1 (fL []) 3 rfl) ?_
 refine VSt.viewC (Wk.vw (ps:=[(0,0),(1,1)]) (F0:=[(3,.p (.fp (eOpn o) 0)),(5,.ref 0 0),(8,knF b l d)]) (L0:=memL 0 1 []) ⟨rfl,rfl,(by repeat (first | exact wf_nil | refine wf_back rfl rfl rfl ?_)),_,rfl,⟨rfl,BImp.cell1 AImp.nilAcc,rfl,BImp.refl _,trivial⟩⟩) ?_
 refine VSt.rangeFuncG [(0,2),(1,0),(2,1)] (stc:=[0,1]) rfl rfl rfl rfl rfl rfl rfl rfl (cnt1_ok (b:=b) (l:=l) (d:=d) (by omega) (G1:=fun k=>(9,.agg ((eOpn (nth l k)).map .p))::[(3,.p (.fp (eOpn o) 0)),(5,.ref 1 0),(8,knF b l d)]) [1]
  (fun k L=>L=memL 1 2 (preL l (fun x=>counts x d&&clB o x) (·.source) k)) (fun _=>False) rfl (fun _=>rfl) ?_ ?_) ?_
 ·rintro k L hk hc rfl
  rw [preL_f hk (by rw [hc];rfl)]
 ·rintro k L hk hc rfl
  refine VSt.go tb_ok false [6] 200 rfl AllP.n ?_
  refine VSt.aside (eOpn (nth l k)) tb_ok rfl rfl rfl rfl rfl rfl rfl rfl rfl rfl rfl ?_
  refine VSt.go tb_ok false [] 200 rfl AllP.n ?_
  refine ⟨rfl,_,rfl,?_⟩
  have hlen:=preL_len (l:=l) (p:=fun x=>counts x d&&clB o x) (f:=(·.source)) (k:=k)
  refine VSt.go tb_ok false [] 200 rfl AllP.n ?_
  refine VSt.pc rfl rfl rfl rfl rfl rfl rfl rfl ((clash_ok (a:=o) (b:=nth l k) ho (hz.each k hk))) ?_
  refine VSt.go tb_ok false [] 200 rfl AllP.n ?_
  refine VSt.cond rfl (fun h1=>?_) (fun h1=>?_)
  ·have e:=preL_t (p:=fun x=>counts x d&&clB o x) (f:=(·.source)) hk (by show (counts (nth l k) d&&clB o (nth l k))=true;rw [hc,h1];rfl)
   have hN:=congrArg List.length e
   rw [List.length_append,List.length_singleton] at hN
   refine VSt.go tb_ok false [] 200 rfl (AllP.c (by omega) (AllP.c (by omega) (AllP.c (fun q hq=>match q,hq with | 0,_=>rfl) (AllP.c rfl (AllP.c rfl (AllP.c rfl AllP.n)))))) ?_
   exact .inl ⟨rfl,[],_,by refine Wk.vw (ps:=[(0,0),(1,1),(2,3)]) ⟨rfl,rfl,(by repeat (first | exact wf_nil | refine wf_back rfl rfl rfl ?_)),_,rfl,(⟨rfl,BImp.refl _,rfl,BImp.cell1 (AImp.acc hN.symm (fun _=>rfl)),rfl,BImp.acc hN.symm (fun x hx=>by rw [e];exact app_int _ _ x hx),trivial⟩)⟩,rfl⟩
  ·have e:=preL_f (p:=fun x=>counts x d&&clB o x) (f:=(·.source)) hk (by show (counts (nth l k) d&&clB o (nth l k))=false;rw [hc,h1];rfl)
   refine VSt.go tb_ok false [] 200 rfl AllP.n ?_
   rw [←e]
   exact .inl ⟨rfl,[],_,by refine Wk.vw (ps:=[(0,0),(1,1),(2,2)]) ⟨rfl,rfl,(by repeat (first | exact wf_nil | refine wf_back rfl rfl rfl ?_)),_,rfl,((LImp.refl _))⟩,rfl⟩
 ·rintro a L' (⟨L,rfl,rfl⟩ | ⟨G2,L,hJ,rfl⟩)
  rotate_left
  ·exact hJ.elim
  refine ⟨_,_,_,_,_,_,_,_,rfl,rfl,rfl,?_⟩
  rw [preL_all]
  refine VSt.viewC (Vw.kp [5] [(0,0),(1,1)] rfl) ?_
  refine VSt.viewC (Vw.freezeA 1 rfl rfl ⟨Nat.le_refl _,rfl⟩) ?_
  refine VSt.go tb_ok false [] 200 rfl AllP.n ?_
  refine EndsP.mk rfl rfl rfl ?_
  exact acc_eInts (j:=0) rfl
end Go.Proofs.YtbieflpgjmgaiaaGreat
/- Walks: the openings that have a day, and a paper. -/
set_option maxRecDepth 100000
namespace Go.Proofs.YtbieflpgjmgaiaaGreat
variable {r:Rm}
end Go.Proofs.YtbieflpgjmgaiaaGreat
/- Walks: the pairs that contradict each other. -/
set_option maxRecDepth 100000
namespace Go.Proofs.YtbieflpgjmgaiaaGreat
variable {r:Rm}
def eP (p:Nat×Nat):List PV:=[.int .i64 (Int.ofNat p.1),.int .i64 (Int.ofNat p.2)]
def fP (l:List (Nat×Nat)):Nat→List PV:=fun q=>eP (l.getD q (0,0))
def ePairs (l:List (Nat×Nat)):PV:=.lst 69 l.isEmpty l.length (fP l)
def memP (i j:Nat) (l:List (Nat×Nat)):VS:=[(i,.cells [.acc true j 2 l.length] 51),(j,.acc l.length 2 (fP l) 69)]
theorem app_pair (l:List (Nat×Nat)) (y:Nat×Nat) {a b:Int} (ha:a=Int.ofNat y.1) (hb:b=Int.ofNat y.2) (q:Nat) (hq:q<l.length+1):(bif Nat.blt q l.length then fP l q else ([PV.int .i64 a,PV.int .i64 b].drop ((q - l.length)*2)).take 2)=fP (l++[y]) q:=by
 unfold fP
 by_cases e:q<l.length
 ·rw [blt_t e]
  simp only [cond_true,List.getD_eq_getElem?_getD]
  rw [List.getElem?_append_left e]
 ·have:q=l.length:=by omega
  subst this
  rw [blt_f e,Nat.sub_self,ha,hb]
  simp [eP]
theorem acc_ePairs {l:List (Nat×Nat)} {n:Nat} (hn:n=l.length):(AV.p (.lst 69 (true&&Nat.beq n 0) n (fP l))) = .p (ePairs l):=by
 subst hn
 cases l <;> rfl
def rowP (l:List Opn) (p:Opn→Bool) (a:Opn) (j:Nat):List (Nat×Nat):=preL l (fun b=>p b&&isP a b) (fun b=>(src a,src b)) j
def crK (l:List Opn) (p:Opn→Bool) (k:Nat):List (Nat×Nat):=((l.take k).filter p).flatMap fun a=>rowP l p a l.length
theorem crK_t {l:List Opn} {p:Opn→Bool} {k:Nat} (h:k<l.length) (hp:p (nth l k)=true):crK l p (k+1)=crK l p k++rowP l p (nth l k) l.length:=by
 unfold crK
 rw [take_nth h,List.filter_append,List.flatMap_append]
 simp [hp]
theorem crK_f {l:List Opn} {p:Opn→Bool} {k:Nat} (h:k<l.length) (hp:p (nth l k)=false):crK l p (k+1)=crK l p k:=by
 unfold crK
 rw [take_nth h,List.filter_append,List.flatMap_append]
 simp [hp]
theorem crK_all {l:List Opn} {p:Opn→Bool}:crK l p l.length=cross (l.filter p):=by
 unfold crK cross rowP
 rw [List.take_length]
 congr 1;funext a
 rw [preL_all]
 congr 1
 rw [List.filter_filter]
 congr 1;funext b
 rw [Bool.and_comm]
theorem flat_le {α β : Type} {f : α → List β} {m:Nat}:∀ {l:List α},(∀ a,a∈l→(f a).length≤m)→(l.flatMap f).length≤l.length*m
 | [],_=>by simp
 | a::l,h=>by
  rw [List.flatMap_cons,List.length_append,List.length_cons,Nat.succ_mul]
  have h1:=h a (List.mem_cons_self ..)
  have h2:=flat_le (l:=l) fun b hb=>h b (List.mem_cons_of_mem _ hb)
  omega
theorem crK_len {l:List Opn} {p:Opn→Bool} {k:Nat} (hl:l.length≤60):(crK l p k).length≤3600:=by
 have h1:(crK l p k).length≤((l.take k).filter p).length*l.length:=flat_le fun a _=>preL_len
 have h2:((l.take k).filter p).length≤60:=Nat.le_trans (List.length_filter_le _ _) (Nat.le_trans (List.length_take_le' ..) hl)
 exact Nat.le_trans h1 (Nat.le_trans (Nat.mul_le_mul h2 hl) (by decide))
theorem pairs_ok {b:Bool} {l:List Opn} {d:Int} (hz:Szs l) (hR:Reg l):VP (sE r) 84 [.p (knP b l d)] (.p (ePairs (cross (cnt l d nb)))):=by
 have hl:=hR.len
 rw [cnt_nb]
 refine VP.of (fn:=Tryz.f84) tb_ok (wk_ok rfl) (by kernel_rfl) rfl rfl rfl ?_
 refine VSt.go tb_ok false [1] 200 rfl AllP.n ?_
 refine VSt.asideB [knP b l d] rfl rfl rfl rfl rfl rfl ?_
 refine VSt.go tb_ok false [] 200 rfl AllP.n ?_
 refine VSt.pc rfl rfl rfl rfl rfl rfl rfl rfl ((counting_ok b l d)) ?_
 refine VSt.go tb_ok false [] 200 rfl AllP.n ?_
 refine VSt.viewC (Vw.kp [1,3,7] [(0,0)] rfl) ?_
 refine VSt.viewC (Vw.adopt 1 2 (fP []) 69 rfl) ?_
 refine VSt.viewC (Wk.vw (ps:=[(0,0),(1,1)]) (F0:=[(1,.p (knB b l d)),(3,.ref 0 0),(7,knF b l d)]) (L0:=memP 0 1 []) ⟨rfl,rfl,(by repeat (first | exact wf_nil | refine wf_back rfl rfl rfl ?_)),_,rfl,⟨rfl,BImp.cell1 AImp.nilAcc,rfl,BImp.refl _,trivial⟩⟩) ?_
 refine VSt.rangeFuncG [(0,2),(1,0),(2,1)] (stc:=[0,1]) rfl rfl rfl rfl rfl rfl rfl rfl (cnt1_ok (b:=b) (l:=l) (d:=d) (by omega) (G1:=fun k=>(8,.agg ((eOpn (nth l k)).map .p))::[(1,.p (knB b l d)),(3,.ref 1 0),(7,knF b l d)]) [1]
  (fun k L=>L=memP 1 2 (crK l (fun o=>counts o d) k)) (fun _=>False) rfl (fun _=>rfl) ?_ ?_) ?_
 ·rintro k L hk hc rfl
  rw [crK_f hk hc]
 ·rintro k L hk hc rfl
  refine VSt.go tb_ok false [4] 200 rfl AllP.n ?_
  refine VSt.aside (eOpn (nth l k)) tb_ok rfl rfl rfl rfl rfl rfl rfl rfl rfl rfl rfl ?_
  refine VSt.go tb_ok false [] 200 rfl AllP.n ?_
  refine ⟨rfl,_,rfl,?_⟩
  have hlen:=crK_len (p:=fun o=>counts o d) (k:=k) hl
  refine VSt.go tb_ok false [] 200 rfl AllP.n ?_
  refine VSt.pc rfl rfl rfl rfl rfl rfl rfl rfl ((counting_ok b l d)) ?_
  refine VSt.go tb_ok false [] 200 rfl AllP.n ?_
  refine VSt.viewC (Vw.kp [1,3,4,10] [(0,0),(1,1),(2,2)] rfl) ?_
  refine VSt.rangeFuncG [(0,3),(1,1),(2,2)] (stc:=[0,1]) rfl rfl rfl rfl rfl rfl rfl rfl (cnt1_ok (b:=b) (l:=l) (d:=d) (by omega) (G1:=fun j=>(11,.agg ((eOpn (nth l j)).map .p))::[(1,.p (knB b l d)),(3,.ref 1 0),(4,.p (.fp (eOpn (nth l k)) 0)),(10,knF b l d)]) [1]
   (fun j L=>L=memP 1 2 (crK l (fun o=>counts o d) k++rowP l (fun o=>counts o d) (nth l k) j)) (fun _=>False) (by rw [show rowP l (fun o=>counts o d) (nth l k) 0=[] from rfl,List.append_nil];rfl) (fun _=>rfl) ?_ ?_) ?_
  ·rintro j L hj hcj rfl
   unfold rowP
   rw [preL_f hj (by show (counts (nth l j) d&&_)=_;rw [hcj];rfl)]
  ·rintro j L hj hcj rfl
   refine VSt.go tb_ok false [5] 200 rfl AllP.n ?_
   refine VSt.aside (eOpn (nth l j)) tb_ok rfl rfl rfl rfl rfl rfl rfl rfl rfl rfl rfl ?_
   refine VSt.go tb_ok false [] 200 rfl AllP.n ?_
   refine ⟨rfl,_,rfl,?_⟩
   have hlen2:(crK l (fun o=>counts o d) k++rowP l (fun o=>counts o d) (nth l k) j).length≤3700:=by
    rw [List.length_append]
    have:(rowP l (fun o=>counts o d) (nth l k) j).length≤l.length:=preL_len
    omega
   have yes:isP (nth l k) (nth l j)=true→crK l (fun o=>counts o d) k++rowP l (fun o=>counts o d) (nth l k) (j+1)=(crK l (fun o=>counts o d) k++rowP l (fun o=>counts o d) (nth l k) j)++[(src (nth l k),src (nth l j))]:=fun h=>by
    unfold rowP
    rw [preL_t hj (by show (counts (nth l j) d&&_)=_;rw [hcj,h];rfl),List.append_assoc]
   have no:isP (nth l k) (nth l j)=false→rowP l (fun o=>counts o d) (nth l k) (j+1)=rowP l (fun o=>counts o d) (nth l k) j:=fun h=>by
    unfold rowP
    rw [preL_f hj (by show (counts (nth l j) d&&_)=_;rw [hcj,h];rfl)]
   refine VSt.go tb_ok false [] 200 rfl AllP.n ?_
   refine VSt.splitO 15 rfl (fun h1=>?_) (fun h1=>?_)
   ·refine VSt.go tb_ok false [] 200 rfl AllP.n ?_
    refine VSt.splitO 20 rfl (fun h2=>?_) (fun h2=>?_)
    ·refine VSt.go tb_ok false [] 200 rfl AllP.n ?_
     refine VSt.pc rfl rfl rfl rfl rfl rfl rfl rfl ((clash_ok (a:=nth l k) (b:=nth l j) (hz.each k hk) (hz.each j hj))) ?_
     refine VSt.go tb_ok false [] 200 rfl AllP.n ?_
     refine VSt.cond rfl (fun h3=>?_) (fun h3=>?_)
     ·have e:=yes (by unfold isP;rw [h1,h2,show clB (nth l k) (nth l j)=true from h3];rfl)
      have hN:(crK l (fun o=>counts o d) k++rowP l (fun o=>counts o d) (nth l k) (j+1)).length=(crK l (fun o=>counts o d) k++rowP l (fun o=>counts o d) (nth l k) j).length+1:=by rw [e,List.length_append];rfl
      refine VSt.go tb_ok false [] 200 rfl (AllP.c (by omega) (AllP.c (by omega) (AllP.c (fun q hq=>match q,hq with | 0,_=>rfl) (AllP.c rfl (AllP.c rfl (AllP.c rfl AllP.n)))))) ?_
      exact .inl ⟨rfl,[],_,by refine Wk.vw (ps:=[(0,0),(1,1),(2,3)]) ⟨rfl,rfl,(by repeat (first | exact wf_nil | refine wf_back rfl rfl rfl ?_)),_,rfl,(⟨rfl,BImp.refl _,rfl,BImp.cell1 (AImp.acc hN.symm (fun _=>rfl)),rfl,BImp.acc hN.symm (fun x hx=>by rw [e];exact app_pair _ _ (hR.ok k hk).src (hR.ok j hj).src x hx),trivial⟩)⟩,rfl⟩
     ·have e:=no (by unfold isP;rw [h1,h2,show clB (nth l k) (nth l j)=false from h3];rfl)
      refine VSt.go tb_ok false [] 200 rfl AllP.n ?_
      rw [←e]
      exact .inl ⟨rfl,[],_,by refine Wk.vw (ps:=[(0,0),(1,1),(2,2)]) ⟨rfl,rfl,(by repeat (first | exact wf_nil | refine wf_back rfl rfl rfl ?_)),_,rfl,((LImp.refl _))⟩,rfl⟩
    ·have e:=no (by unfold isP;rw [h1,h2];rfl)
     refine VSt.go tb_ok false [] 200 rfl AllP.n ?_
     rw [←e]
     exact .inl ⟨rfl,[],_,by refine Wk.vw (ps:=[(0,0),(1,1),(2,2)]) ⟨rfl,rfl,(by repeat (first | exact wf_nil | refine wf_back rfl rfl rfl ?_)),_,rfl,((LImp.refl _))⟩,rfl⟩
   ·have e:=no (by unfold isP;rw [h1];rfl)
    refine VSt.go tb_ok false [] 200 rfl AllP.n ?_
    rw [←e]
    exact .inl ⟨rfl,[],_,by refine Wk.vw (ps:=[(0,0),(1,1),(2,2)]) ⟨rfl,rfl,(by repeat (first | exact wf_nil | refine wf_back rfl rfl rfl ?_)),_,rfl,((LImp.refl _))⟩,rfl⟩
  ·rintro a L' (⟨L,rfl,rfl⟩ | ⟨G2,L,hJ,rfl⟩)
   rotate_left
   ·exact hJ.elim
   refine ⟨_,_,_,_,_,_,_,_,rfl,rfl,rfl,?_⟩
   rw [←crK_t hk hc]
   refine VSt.go tb_ok false [] 200 rfl AllP.n ?_
   exact .inl ⟨rfl,[],_,by refine Wk.vw (ps:=[(0,0),(1,1),(2,2)]) ⟨rfl,rfl,(by repeat (first | exact wf_nil | refine wf_back rfl rfl rfl ?_)),_,rfl,((LImp.refl _))⟩,rfl⟩
 ·rintro a L' (⟨L,rfl,rfl⟩ | ⟨G2,L,hJ,rfl⟩)
  rotate_left
  ·exact hJ.elim
  refine ⟨_,_,_,_,_,_,_,_,rfl,rfl,rfl,?_⟩
  rw [crK_all]
  refine VSt.viewC (Vw.kp [3] [(0,0),(1,1)] rfl) ?_
  refine VSt.viewC (Vw.freezeA 1 rfl rfl ⟨Nat.le_refl _,rfl⟩) ?_
  refine VSt.go tb_ok false [] 200 rfl AllP.n ?_
  refine EndsP.mk rfl rfl rfl ?_
  exact acc_ePairs rfl
end Go.Proofs.YtbieflpgjmgaiaaGreat
