/- The program's ChestMore returns true for all numbers without an exception and without changing its arguments: a part of the proof. -/
import Derived.Test.YtbieflpgjmgaiaaGreatVr
import Derived.Test.YtbieflpgjmgaiaaGreatVq
set_option linter.all false
/- Walks: a step of the matching. -/
set_option maxRecDepth 100000
namespace Go.Proofs.YtbieflpgjmgaiaaGreat
open Kuhn
variable {r:Rm}
theorem loopK_grow {rec:Nat→KS Nat→Bool×KS Nat} {f:Nat} (hr:∀ p τ s,τ.seen s=true→(rec p τ).2.seen s=true):∀ (l:List Nat) (σ : KS Nat) (s:Nat),σ.seen s=true→(loopK rec f l σ).2.seen s=true
 | [],σ,s,h=>h
 | x::l,σ,s,h=>by
  have hs:(σ.see x).seen s=true:=see_seen.2 (.inr h)
  unfold loopK
  split
  ·exact loopK_grow hr l σ s h
  ·split
   ·exact hs
   ·rename_i p hp
    have h2:=hr p (σ.see x) s hs
    split
    ·rename_i τ e;rw [e] at h2;exact h2
    ·rename_i τ e;rw [e] at h2;exact loopK_grow hr l τ s h2
theorem tryK_grow {adj:Nat→List Nat}:∀ (k f:Nat) (σ : KS Nat) (s:Nat),σ.seen s=true→(tryK adj k f σ).2.seen s=true
 | 0,_,_,_,h=>h
 | k+1,f,σ,s,h=>loopK_grow (fun p τ s=>tryK_grow k p τ s) (adj f) σ s h
theorem left_mono {σ τ : KS Nat} (h:∀ s,σ.seen s=true→τ.seen s=true):∀ B:List Nat,left B τ ≤ left B σ
 | []=>Nat.le_refl _
 | b::B=>by
  have ih:=left_mono h B
  unfold left at ih ⊢
  cases hb : σ.seen b with
  | true=>rw [List.filter_cons_of_neg (by rw [h b hb];decide),List.filter_cons_of_neg (by rw [hb];decide)];exact ih
  | false =>
   rw [List.filter_cons_of_pos (p:=fun s=>!σ.seen s) (by rw [hb];rfl)]
   cases ht : τ.seen b with
   | true=>rw [List.filter_cons_of_neg (by rw [ht];decide)];exact Nat.le_succ_of_le ih
   | false=>rw [List.filter_cons_of_pos (by rw [ht];rfl)];exact Nat.succ_le_succ ih
theorem left_see {σ : KS Nat} {s:Nat} (hs : σ.seen s=false):∀ {B:List Nat},s∈B→left B (σ.see s)<left B σ
 | b::B,h=>by
  have hm:=left_mono (σ := σ) (τ := σ.see s) (fun t ht=>see_seen.2 (.inr ht)) B
  unfold left at hm ⊢
  by_cases e:b=s
  ·subst e
   rw [List.filter_cons_of_pos (p:=fun s=>!σ.seen s) (by rw [hs];rfl),List.filter_cons_of_neg (by rw [see_seen.2 (.inl rfl)];decide)]
   exact Nat.lt_succ_of_le hm
  ·have ih:=left_see hs (B:=B) ((List.mem_cons.1 h).resolve_left fun h=>e h.symm)
   unfold left at ih
   cases hb : σ.seen b with
   | true=>rw [List.filter_cons_of_neg (by rw [see_seen.2 (.inr hb)];decide),List.filter_cons_of_neg (by rw [hb];decide)];exact ih
   | false =>
    rw [List.filter_cons_of_pos (p:=fun s=>!σ.seen s) (by rw [hb];rfl),List.filter_cons_of_pos (by rw [see_not.2 ⟨e,hb⟩];rfl)]
    exact Nat.succ_lt_succ ih
structure WS (Fs Sec:Nat→Prop) (σ : KS Nat):Prop where
 of_:∀ s g,σ.of s=some g→Sec s∧Fs g
 to_:∀ x y,σ.to x=some y→Fs x
theorem WS.see {Fs Sec:Nat→Prop} {σ : KS Nat} (h:WS Fs Sec σ) (s:Nat):WS Fs Sec (σ.see s):=⟨h.of_,h.to_⟩
theorem WS.pair {Fs Sec:Nat→Prop} {σ : KS Nat} (h:WS Fs Sec σ) {f s:Nat} (hf:Fs f) (hs:Sec s):WS Fs Sec (σ.pair f s):=by
 refine ⟨fun t g ht=>?_,fun x y hx=>?_⟩
 ·by_cases e:t=s
  ·subst e
   have:(σ.pair f t).of t=some f:=upd_eq
   rw [this] at ht;cases ht
   exact ⟨hs,hf⟩
  ·exact h.of_ t g (by rw [←ht];exact (upd_ne e).symm)
 ·by_cases e:x=f
  ·subst e;exact hf
  ·exact h.to_ x y (by rw [←hx];exact (upd_ne e).symm)
theorem loopK_ws {Fs Sec:Nat→Prop} {rec:Nat→KS Nat→Bool×KS Nat} {f:Nat} (hf:Fs f) (hr:∀ p τ,Fs p→WS Fs Sec τ → WS Fs Sec (rec p τ).2):∀ (l:List Nat) (σ : KS Nat),(∀ x,x∈l→Sec x)→WS Fs Sec σ → WS Fs Sec (loopK rec f l σ).2
 | [],σ,_,h=>h
 | x::l,σ,hl,h=>by
  have hl2:=fun y hy=>hl y (List.mem_cons_of_mem x hy)
  have hx:=hl x (List.mem_cons_self ..)
  unfold loopK
  split
  ·exact loopK_ws hf hr l σ hl2 h
  ·split
   ·exact (h.see x).pair hf hx
   ·rename_i p hp
    have h2:=hr p (σ.see x) (h.of_ x p hp).2 (h.see x)
    split
    ·rename_i τ e;rw [e] at h2;exact h2.pair hf hx
    ·rename_i τ e;rw [e] at h2;exact loopK_ws hf hr l τ hl2 h2
theorem tryK_ws {Fs Sec:Nat→Prop} {adj:Nat→List Nat} (ha:∀ p,Fs p→∀ x,x∈adj p→Sec x):∀ (k f:Nat) (σ : KS Nat),Fs f→WS Fs Sec σ → WS Fs Sec (tryK adj k f σ).2
 | 0,_,_,_,h=>h
 | k+1,f,σ,hf,h=>loopK_ws hf (fun p τ hp hτ =>tryK_ws ha k p τ hp hτ) (adj f) σ (ha f hf) h
def eNs (l:List Nat):PV:=.lst 3 l.isEmpty l.length fun q=>[.int .i64 (Int.ofNat (l.getD q 0))]
def nxP (P:List (Nat×Nat)):Nat→Option PV:=fun f=>if nextP P f=[] then none else some (eNs (nextP P f))
theorem nxP_get (P:List (Nat×Nat)) (f:Nat):AImp (.p ((nxP P f).getD (.lst 0 true 0 fun _=>[]))) (.p (eNs (nextP P f))):=by
 unfold nxP
 by_cases h:nextP P f=[]
 ·rw [if_pos h,h];exact AImp.nil
 ·rw [if_neg h];exact AImp.refl _
def seenP (σ : KS Nat):Nat→Option PV:=fun k=>bif σ.seen k then some (.bool true) else none
def mpS (σ : KS Nat):Nat→Option PV:=fun x=>match σ.of x with
 | some g=>some (.int .i64 (Int.ofNat g))
 | none=>match σ.to x with
  | some y=>some (.int .i64 (Int.ofNat y))
  | none=>none
def cntP (U:List Nat) (p:Nat→Option PV):Nat:=(U.filter fun x=>(p x).isSome).length
theorem cntP_congr {U:List Nat} {p q:Nat→Option PV} (h:∀ x,p x=q x):cntP U p=cntP U q:=by
 rw [show p=q from funext h]
theorem cntP_set {U:List Nat} {p:Nat→Option PV} {a:Nat} {q:PV} (hU:U.Nodup) (ha:a∈U):cntP U (fun k=>bif Nat.beq a k then some q else p k)=bif (p a).isSome then cntP U p else cntP U p+1:=by
 cases hp:(p a).isSome with
 | true =>
  simp only [cond_true]
  unfold cntP
  congr 2;funext x
  cases hb:Nat.beq a x with
  | true=>have:=beq_eq hb;subst this;simp only [hb,cond_true,Option.isSome_some,hp]
  | false=>simp only [hb,cond_false]
 | false =>
  simp only [cond_false]
  refine filter_one hU ha hp (by show (bif Nat.beq a a then some q else p a).isSome=true;rw [Nat.beq_refl];rfl) fun t ht=>?_
  show (bif Nat.beq a t then some q else p t).isSome=_
  rw [beq_ne (fun e=>ht e.symm)];rfl
def ofI (σ : KS Nat) (s:Nat):Nat:=(σ.of s).getD 0
theorem mpS_of {Fs Sec:Nat→Prop} {σ : KS Nat} {s:Nat} (h:WS Fs Sec σ) (hs:¬ Fs s):(mpS σ s).getD (.int .i64 0) = .int .i64 (Int.ofNat (ofI σ s)):=by
 unfold mpS ofI
 cases ho : σ.of s with
 | some g=>rfl
 | none =>
  cases ht : σ.to s with
  | none=>rfl
  | some y=>exact absurd (h.to_ s y ht) hs
theorem mpS_pair {Fs Sec:Nat→Prop} {σ : KS Nat} {f s:Nat} (h:WS Fs Sec σ) (hd:∀ x,Fs x→¬ Sec x) (hf:Fs f) (hs:Sec s) (x:Nat):(bif Nat.beq f x then some (.int .i64 (Int.ofNat s)) else bif Nat.beq s x then some (.int .i64 (Int.ofNat f)) else mpS σ x)=mpS (σ.pair f s) x:=by
 cases hb:Nat.beq f x with
 | true =>
  have:=beq_eq hb;subst this
  have hne:f≠s:=fun e=>hd f hf (e ▸ hs)
  have h1:(σ.pair f s).of f = σ.of f:=upd_ne hne
  have h2:(σ.pair f s).to f=some s:=upd_eq
  have h3 : σ.of f=none:=by
   cases ho : σ.of f with
   | none=>rfl
   | some g=>exact absurd (h.of_ f g ho).1 (hd f hf)
  unfold mpS
  rw [h1,h3,h2];rfl
 | false =>
  have hne:x≠f:=fun e=>by subst e;rw [Nat.beq_refl] at hb;cases hb
  have h2:(σ.pair f s).to x = σ.to x:=upd_ne hne
  cases hb2:Nat.beq s x with
  | true =>
   have:=beq_eq hb2;subst this
   have h1:(σ.pair f s).of s=some f:=upd_eq
   unfold mpS
   rw [h1];rfl
  | false =>
   have hne2:x≠s:=fun e=>by subst e;rw [Nat.beq_refl] at hb2;cases hb2
   have h1:(σ.pair f s).of x = σ.of x:=upd_ne hne2
   unfold mpS
   rw [h1,h2];rfl
end Go.Proofs.YtbieflpgjmgaiaaGreat
/- Walks: a step of the matching finds a partner, or none. -/
set_option maxRecDepth 100000
namespace Go.Proofs.YtbieflpgjmgaiaaGreat
open Kuhn
variable {r:Rm}
theorem loopK_seen {rec:Nat→KS Nat→Bool×KS Nat} {f s:Nat} {l:List Nat} {σ : KS Nat} (h : σ.seen s=true):loopK rec f (s::l) σ = loopK rec f l σ :=by
 rw [loopK,if_pos h]
theorem loopK_free {rec:Nat→KS Nat→Bool×KS Nat} {f s:Nat} {l:List Nat} {σ : KS Nat} (h : σ.seen s=false) (h1 : σ.of s=none):loopK rec f (s::l) σ = (true,(σ.see s).pair f s):=by
 rw [loopK,if_neg (by rw [h];decide),h1]
theorem loopK_win {rec:Nat→KS Nat→Bool×KS Nat} {f s g:Nat} {l:List Nat} {σ : KS Nat} (h : σ.seen s=false) (h1 : σ.of s=some g) (h2:(rec g (σ.see s)).1=true):loopK rec f (s::l) σ = (true,(rec g (σ.see s)).2.pair f s):=by
 rw [loopK,if_neg (by rw [h];decide),h1]
 cases hq:rec g (σ.see s) with
 | mk w τ =>
  rw [hq] at h2
  have h2:w=true:=h2
  subst h2
  simp only [hq]
theorem loopK_lose {rec:Nat→KS Nat→Bool×KS Nat} {f s g:Nat} {l:List Nat} {σ : KS Nat} (h : σ.seen s=false) (h1 : σ.of s=some g) (h2:(rec g (σ.see s)).1=false):loopK rec f (s::l) σ = loopK rec f l (rec g (σ.see s)).2:=by
 rw [loopK,if_neg (by rw [h];decide),h1]
 cases hq:rec g (σ.see s) with
 | mk w τ =>
  rw [hq] at h2
  have h2:w=false:=h2
  subst h2
  simp only [hq]
structure MG (P:List (Nat×Nat)) (B:List Nat):Prop where
 adj:∀ f,f∈firstsP P []→∀ x,x∈nextP P f→x∈B
 dis:∀ x,x∈firstsP P []→x ∉ B
 pos:∀ f,f∈firstsP P []→0<f
 big:∀ f,f∈firstsP P []→f<1000000
 bigB:∀ f,f∈B→f<1000000
 nod:(firstsP P []++B).Nodup
 len:P.length≤3600
def memS (P:List (Nat×Nat)) (B:List Nat) (σ : KS Nat):VS:=[(0,.cells [.map 1] 130),(1,.mapA none (nxP P) []),(2,.cells [.map 3] 96),(3,.mapA none (seenP σ) []),(4,.cells [.map 5] 110),(5,.mapA (some (cntP (firstsP P []++B) (mpS σ))) (mpS σ) []),(6,.cells [.fn 123 [] [.ref 0 0,.ref 2 0,.ref 4 0,.ref 6 0]] 80)]
theorem nextP_len (P:List (Nat×Nat)) (f:Nat):(nextP P f).length≤P.length:=by
 unfold nextP
 rw [List.length_map]
 exact List.length_filter_le _ _
theorem pair_imp {P:List (Nat×Nat)} {B:List Nat} (hG:MG P B) {σ : KS Nat} (hW:WS (fun f=>f∈firstsP P []) (fun x=>x∈B) σ) {f s:Nat} (hf:f∈firstsP P []) (hs:s∈B) :
  BImp (.mapA (some (bif (bif Nat.beq s f then some (PV.int .i64 (Int.ofNat f)) else mpS σ f).isSome then (bif (mpS σ s).isSome then cntP (firstsP P []++B) (mpS σ) else cntP (firstsP P []++B) (mpS σ)+1) else (bif (mpS σ s).isSome then cntP (firstsP P []++B) (mpS σ) else cntP (firstsP P []++B) (mpS σ)+1)+1)) (fun k=>bif Nat.beq f k then some (.int .i64 (Int.ofNat s)) else bif Nat.beq s k then some (.int .i64 (Int.ofNat f)) else mpS σ k) [])
   (.mapA (some (cntP (firstsP P []++B) (mpS (σ.pair f s)))) (mpS (σ.pair f s)) []):=by
 have h0:=mpS_pair hW (fun x hx=>hG.dis x hx) hf hs
 have h1:=cntP_set (p:=mpS σ) (q:=.int .i64 (Int.ofNat f)) hG.nod (List.mem_append_right _ hs)
 have h2:=cntP_set (p:=fun k=>bif Nat.beq s k then some (PV.int .i64 (Int.ofNat f)) else mpS σ k) (q:=.int .i64 (Int.ofNat s)) hG.nod (List.mem_append_left _ hf)
 rw [h1] at h2
 refine BImp.mapP (.inl ?_) h0
 rw [←h2,cntP_congr h0]
theorem see_imp {σ : KS Nat} {s:Nat}:BImp (.mapA none (fun k=>bif Nat.beq s k then some (PV.bool true) else seenP σ k) []) (.mapA none (seenP (σ.see s)) []):=by
 refine BImp.mapP (.inl rfl) fun k=>?_
 unfold seenP
 cases hb:Nat.beq s k with
 | true=>have:=beq_eq hb;subst this;rw [show (σ.see s).seen s=true from see_seen.2 (.inl rfl)];rfl
 | false =>
  have hne:k≠s:=fun e=>by subst e;rw [Nat.beq_refl] at hb;cases hb
  rw [show (σ.see s).seen k = σ.seen k from upd_ne hne];rfl
theorem drop_cons {l:List Nat} {k:Nat} (h:k<l.length):l.drop k=l.getD k 0::l.drop (k+1):=by
 rw [List.drop_eq_getElem_cons h,getD_get h]
set_option maxHeartbeats 4000000 in
theorem step_ok {P:List (Nat×Nat)} {B:List Nat} (hG:MG P B):∀ (k f:Nat) (σ : KS Nat),f∈firstsP P []→WS (fun f=>f∈firstsP P []) (fun x=>x∈B) σ → left B σ < k →
  VC (sE r) [0,1,2,3,4,5,6] 123 [nv f,.ref 0 0,.ref 2 0,.ref 4 0,.ref 6 0] (memS P B σ) (fun a L=>a=bv (tryK (nextP P) k f σ).1∧L=memS P B (tryK (nextP P) k f σ).2)
 | 0,_,_,_,_,h=>absurd h (Nat.not_lt_zero _)
 | k+1,f,σ,hf,hW,hk=>by
  have hlen:(nextP P f).length≤3600:=Nat.le_trans (nextP_len P f) hG.len
  have ih:=fun g τ h1 h2 h3=>step_ok hG k g τ h1 h2 h3
  refine VC.of (fn:=Tryz.f123) tb_ok (wk_ok rfl) (by kernel_rfl) rfl rfl ?_
  refine VSt.go tb_ok false [12] 200 rfl AllP.n ?_
  refine VSt.putO 11 (.p (eNs (nextP P f))) rfl (nxP_get P f) ?_
  refine VSt.go tb_ok false [] 200 rfl AllP.n ?_
  refine VSt.range tb_ok (nextP P f).length (by omega) (fun j F L=>F=[(0,nv f),(1,.ref 0 0),(2,.ref 2 0),(3,.ref 4 0),(4,.ref 6 0),(11,.p (eNs (nextP P f)))]∧∃ σj,(loopK (tryK (nextP P) k) f (nextP P f) σ = loopK (tryK (nextP P) k) f ((nextP P f).drop j) σj∧WS (fun f=>f∈firstsP P []) (fun x=>x∈B) σj∧left B σj≤left B σ)∧L=memS P B σj) rfl rfl
   ⟨[(0,nv f),(1,.ref 0 0),(2,.ref 2 0),(3,.ref 4 0),(4,.ref 6 0),(11,.p (eNs (nextP P f)))],memS P B σ,(by (refine Vw.sub' (subK (by repeat (first | exact sk_nil | refine sk_cons rfl ?_))))),rfl,σ,⟨rfl,hW,Nat.le_refl _⟩,rfl⟩ ?_ ?_
  ·rintro j F L hj ⟨rfl,σj,⟨e1,hWj,hlj⟩,rfl⟩
   have hs:(nextP P f).getD j 0∈nextP P f:=getD_mem hj
   have hsB:=hG.adj f hf _ hs
   rw [drop_cons hj] at e1
   refine VSt.go tb_ok false [] 200 rfl (AllP.c ‹_› (AllP.c rfl AllP.n)) ?_
   refine VSt.putC 19 (bv (σj.seen ((nextP P f).getD j 0))) rfl (AImp.of_eq (by show AV.p ((seenP σj _).getD _)=_;unfold seenP;cases σj.seen ((nextP P f).getD j 0) <;> rfl)) ?_
   refine VSt.cond rfl (fun h1=>?_) (fun h1=>?_)
   ·have h1 : σj.seen ((nextP P f).getD j 0)=true:=h1
    refine VSt.go tb_ok false [] 200 rfl AllP.n ?_
    rw [loopK_seen h1] at e1
    exact ⟨_,_,(by (refine Vw.sub' (subK (by repeat (first | exact sk_nil | refine sk_cons rfl ?_))))),⟨rfl,σj,⟨e1,hWj,hlj⟩,rfl⟩,rfl⟩
   have h1 : σj.seen ((nextP P f).getD j 0)=false:=h1
   have hWs:=hWj.see ((nextP P f).getD j 0)
   have hls:=left_see h1 hsB
   refine VSt.go tb_ok false [25] 200 rfl AllP.n ?_
   refine VSt.putO 24 (nv (ofI σj ((nextP P f).getD j 0))) rfl (AImp.of_eq (congrArg AV.p (mpS_of hWj (fun h=>hG.dis _ h hsB)))) ?_
   refine VSt.viewO (Wk.vw (ps:=[(0,0),(1,1),(2,2),(3,3),(4,4),(5,5),(6,6)]) (F0:=[(0,nv f),(1,.ref 0 0),(2,.ref 2 0),(3,.ref 4 0),(4,.ref 6 0),(8,nv ((nextP P f).getD j 0)),(11,.p (eNs (nextP P f))),(12,nv (nextP P f).length),(13,nv j),(24,nv (ofI σj ((nextP P f).getD j 0)))]) (L0:=memS P B (σj.see ((nextP P f).getD j 0))) ⟨rfl,rfl,(by repeat (first | exact wf_nil | refine wf_back rfl rfl rfl ?_)),_,rfl,⟨rfl,BImp.refl _,rfl,BImp.refl _,rfl,BImp.refl _,rfl,see_imp,rfl,BImp.refl _,rfl,BImp.refl _,rfl,BImp.refl _,trivial⟩⟩) ?_
   refine VSt.go tb_ok false [] 200 rfl AllP.n ?_
   refine VSt.splitO 26 rfl (fun h2=>?_) (fun h2=>?_)
   ·have h2:(Int.ofNat (ofI σj ((nextP P f).getD j 0))==0)=true:=h2
    have ho : σj.of ((nextP P f).getD j 0)=none:=by
     cases ho : σj.of ((nextP P f).getD j 0) with
     | none=>rfl
     | some g =>
      have h3:=hG.pos g (hWj.of_ _ _ ho).2
      have h4:ofI σj ((nextP P f).getD j 0)=g:=by unfold ofI;rw [ho];rfl
      rw [h4] at h2
      have h5:Int.ofNat g=0:=by simpa using h2
      simp only [Int.ofNat_eq_natCast] at h5
      omega
    rw [loopK_free h1 ho] at e1
    have e2:tryK (nextP P) (k+1) f σ = (true,(σj.see ((nextP P f).getD j 0)).pair f ((nextP P f).getD j 0)):=e1
    refine VSt.go tb_ok false [] 200 rfl AllP.n ?_
    refine ⟨rfl,_,[(0,0),(1,1),(2,2),(3,3),(4,4),(5,5),(6,6)],bv true,memS P B ((σj.see ((nextP P f).getD j 0)).pair f ((nextP P f).getD j 0)),rfl,⟨rfl,rfl,wf_imp rfl rfl (AImp.refl _) wf_nil,_,rfl,⟨rfl,BImp.refl _,rfl,BImp.refl _,rfl,BImp.refl _,rfl,BImp.refl _,rfl,BImp.refl _,rfl,pair_imp hG hWs hf hsB,rfl,BImp.refl _,trivial⟩⟩,?_,?_⟩
    ·rw [e2]
    ·rw [e2]
   ·have h2:(Int.ofNat (ofI σj ((nextP P f).getD j 0))==0)=false:=h2
    have hog:∃ g,σj.of ((nextP P f).getD j 0)=some g:=by
     cases ho : σj.of ((nextP P f).getD j 0) with
     | some g=>exact ⟨g,rfl⟩
     | none =>
      have h4:ofI σj ((nextP P f).getD j 0)=0:=by unfold ofI;rw [ho];rfl
      rw [h4] at h2;cases h2
    refine Exists.elim hog fun g ho=>?_
    have hg:=(hWj.of_ _ _ ho).2
    have h4:ofI (σj.see ((nextP P f).getD j 0)) ((nextP P f).getD j 0)=g:=by
     show (σj.of ((nextP P f).getD j 0)).getD 0=g
     rw [ho];rfl
    have hcall:=ih g (σj.see ((nextP P f).getD j 0)) hg hWs (by omega)
    refine VSt.go tb_ok false [31] 200 rfl AllP.n ?_
    refine VSt.putO 30 (nv g) rfl (AImp.of_eq (by rw [←h4];exact congrArg AV.p (mpS_of hWs (fun h=>hG.dis _ h hsB)))) ?_
    refine VSt.cc [(0,0),(1,1),(2,2),(3,3),(4,4),(5,5),(6,6)] rfl rfl rfl rfl rfl rfl rfl rfl rfl rfl rfl hcall ?_
    rintro a L' ⟨rfl,rfl⟩
    have hW2:=tryK_ws (Fs:=fun f=>f∈firstsP P []) (Sec:=fun x=>x∈B) (fun p hp x hx=>hG.adj p hp x hx) k g (σj.see ((nextP P f).getD j 0)) hg hWs
    have hl2:=left_mono (τ :=(tryK (nextP P) k g (σj.see ((nextP P f).getD j 0))).2) (fun t ht=>tryK_grow k g (σj.see ((nextP P f).getD j 0)) t ht) B
    refine VSt.go tb_ok false [] 200 rfl AllP.n ?_
    refine VSt.cond rfl (fun h5=>?_) (fun h5=>?_)
    ·have h5:(tryK (nextP P) k g (σj.see ((nextP P f).getD j 0))).1=true:=h5
     rw [loopK_win h1 ho h5] at e1
     have e2:tryK (nextP P) (k+1) f σ = (true,(tryK (nextP P) k g (σj.see ((nextP P f).getD j 0))).2.pair f ((nextP P f).getD j 0)):=e1
     refine VSt.go tb_ok false [] 200 rfl AllP.n ?_
     refine ⟨rfl,_,[(0,0),(1,1),(2,2),(3,3),(4,4),(5,5),(6,6)],bv true,memS P B ((tryK (nextP P) k g (σj.see ((nextP P f).getD j 0))).2.pair f ((nextP P f).getD j 0)),rfl,⟨rfl,rfl,wf_imp rfl rfl (AImp.refl _) wf_nil,_,rfl,⟨rfl,BImp.refl _,rfl,BImp.refl _,rfl,BImp.refl _,rfl,BImp.refl _,rfl,BImp.refl _,rfl,pair_imp hG hW2 hf hsB,rfl,BImp.refl _,trivial⟩⟩,?_,?_⟩
     ·rw [e2]
     ·rw [e2]
    ·have h5:(tryK (nextP P) k g (σj.see ((nextP P f).getD j 0))).1=false:=h5
     rw [loopK_lose h1 ho h5] at e1
     refine VSt.go tb_ok false [] 200 rfl AllP.n ?_
     exact ⟨_,_,(by (refine Vw.sub' (subK (by repeat (first | exact sk_nil | refine sk_cons rfl ?_))))),⟨rfl,(tryK (nextP P) k g (σj.see ((nextP P f).getD j 0))).2,⟨e1,hW2,by omega⟩,rfl⟩,rfl⟩
  ·rintro F L ⟨rfl,σj,⟨e1,hWj,hlj⟩,rfl⟩
   rw [List.drop_length] at e1
   have e2:tryK (nextP P) (k+1) f σ = (false,σj):=e1
   refine VSt.go tb_ok false [] 200 rfl AllP.n ?_
   refine ⟨rfl,_,[(0,0),(1,1),(2,2),(3,3),(4,4),(5,5),(6,6)],bv false,memS P B σj,rfl,⟨rfl,rfl,wf_imp rfl rfl (AImp.refl _) wf_nil,_,rfl,LImp.refl _⟩,?_,?_⟩
   ·rw [e2]
   ·rw [e2]
end Go.Proofs.YtbieflpgjmgaiaaGreat
/- Matchings, in plain words: the pairs one by one; as many keys as partners. -/
set_option maxRecDepth 100000
namespace Go.Proofs.YtbieflpgjmgaiaaGreat
open Kuhn
theorem firstsP_snoc (p:Nat×Nat):∀ (l:List (Nat×Nat)) (acc:List Nat),firstsP (l++[p]) acc=bif (firstsP l acc).contains p.1 then firstsP l acc else firstsP l acc++[p.1]
 | [],acc=>rfl
 | q::l,acc=>firstsP_snoc p l _
theorem nextP_snoc (l:List (Nat×Nat)) (p:Nat×Nat) (f:Nat):nextP (l++[p]) f=bif Nat.beq p.1 f then nextP l f++[p.2] else nextP l f:=by
 unfold nextP
 rw [List.filter_append,List.map_append]
 cases hb:Nat.beq p.1 f with
 | true=>simp only [List.filter_cons,List.filter_nil,hb,if_true,cond_true];rfl
 | false=>simp only [List.filter_cons,List.filter_nil,hb,cond_false,Bool.false_eq_true,if_false,List.map_nil,List.append_nil]
theorem takeP {P:List (Nat×Nat)} {k:Nat} (h:k<P.length):P.take (k+1)=P.take k++[P.getD k (0,0)]:=by
 rw [List.take_add_one,List.getElem?_eq_getElem h,List.getD_eq_getElem?_getD,List.getElem?_eq_getElem h];rfl
def Rising (P:List (Nat×Nat)):Prop:=∀ i j,i<j→j<P.length→(P.getD i (0,0)).1≤(P.getD j (0,0)).1
theorem rising_cur {P:List (Nat×Nat)} (hP:Rising P) {k:Nat} (hk:k+1<P.length) (h:(P.getD (k+1) (0,0)).1≠(P.getD k (0,0)).1):nextP (P.take (k+1)) (P.getD (k+1) (0,0)).1=[]:=by
 unfold nextP
 rw [List.map_eq_nil_iff,List.filter_eq_nil_iff]
 intro q hq hb
 have hb:=Nat.eq_of_beq_eq_true hb
 obtain ⟨i,hi,e⟩:=mem_getD (d:=(0,0)) hq
 rw [List.length_take] at hi
 have e2:P.getD i (0,0)=q:=by
  rw [←e,List.getD_eq_getElem?_getD,List.getD_eq_getElem?_getD,List.getElem?_take,if_pos (by omega)]
 have h1:(P.getD k (0,0)).1≤(P.getD (k+1) (0,0)).1:=hP k (k+1) (by omega) hk
 by_cases e3:i=k
 ·subst e3
  rw [e2] at h
  exact h hb.symm
 ·have h2:(P.getD i (0,0)).1≤(P.getD k (0,0)).1:=hP i k (by omega) (by omega)
  rw [e2] at h2
  omega
theorem firsts_has {P:List (Nat×Nat)} {f:Nat}:(firstsP P []).contains f=true ↔ nextP P f≠[]:=by
 rw [List.contains_iff_mem,firstsP_mem]
 constructor
 ·rintro (h | ⟨x,h⟩)
  ·cases h
  ·exact fun e=>by have:=nextP_mem.2 h;rw [e] at this;cases this
 ·intro h
  cases hn:nextP P f with
  | nil=>exact absurd hn h
  | cons x l=>exact .inr ⟨x,nextP_mem.1 (by rw [hn];exact List.mem_cons_self ..)⟩
theorem nxP_ne {P:List (Nat×Nat)} {p:Nat×Nat} {x:Nat} (h:x≠p.1):nxP P x=nxP (P++[p]) x:=by
 unfold nxP
 rw [nextP_snoc,beq_ne (fun e=>h e.symm)];rfl
def Dm (σ : KS Nat):Prop:=∀ s p,σ.of s=some p→(σ.to p).isSome=true
theorem Dm.pair {σ : KS Nat} (h:Dm σ) (f s:Nat):Dm (σ.pair f s):=fun t p ht=>by
 have key:∀ p,p=f∨(σ.to p).isSome=true→((σ.pair f s).to p).isSome=true:=fun p hp=>by
  by_cases e:p=f
  ·subst e
   rw [show (σ.pair p s).to p=some s from upd_eq];rfl
  ·rw [show (σ.pair f s).to p = σ.to p from upd_ne e]
   exact hp.resolve_left e
 by_cases e:t=s
 ·subst e
  rw [show (σ.pair f t).of t=some f from upd_eq] at ht
  cases ht
  exact key f (.inl rfl)
 ·rw [show (σ.pair f s).of t = σ.of t from upd_ne e] at ht
  exact key p (.inr (h t p ht))
theorem to_pair (σ : KS Nat) (f s x:Nat):((σ.pair f s).to x).isSome=((σ.to x).isSome||x==f):=by
 by_cases e:x=f
 ·subst e
  rw [show (σ.pair x s).to x=some s from upd_eq];simp
 ·rw [show (σ.pair f s).to x = σ.to x from upd_ne e,beq_false_of_ne e,Bool.or_false]
theorem loopK_dm {rec:Nat→KS Nat→Bool×KS Nat} {f:Nat} (hr:∀ p τ,Dm τ → Dm (rec p τ).2∧∀ x,((rec p τ).2.to x).isSome=((τ.to x).isSome||((rec p τ).1&&x==p))):∀ (l:List Nat) (σ : KS Nat),Dm σ → Dm (loopK rec f l σ).2∧∀ x,((loopK rec f l σ).2.to x).isSome=((σ.to x).isSome||((loopK rec f l σ).1&&x==f))
 | [],σ,h=>⟨h,fun x=>by show (σ.to x).isSome=((σ.to x).isSome||(false&&_));simp⟩
 | y::l,σ,h=>by
  cases hs : σ.seen y with
  | true=>rw [loopK_seen hs];exact loopK_dm hr l σ h
  | false =>
   have hD:Dm (σ.see y):=h
   cases ho : σ.of y with
   | none =>
    rw [loopK_free hs ho]
    exact ⟨hD.pair f y,fun x=>(to_pair (σ.see y) f y x).trans (by rfl)⟩
   | some g =>
    obtain ⟨h1,h2⟩:=hr g (σ.see y) hD
    have h3:∀ x,((rec g (σ.see y)).2.to x).isSome=(σ.to x).isSome:=fun x=>by
     rw [h2 x]
     show ((σ.to x).isSome||_)=_
     by_cases e:x=g
     ·subst e;rw [h y x ho];rfl
     ·rw [beq_false_of_ne e];simp
    cases hw:(rec g (σ.see y)).1 with
    | true =>
     rw [loopK_win hs ho hw]
     exact ⟨h1.pair f y,fun x=>(to_pair _ f y x).trans (by rw [h3];rfl)⟩
    | false =>
     rw [loopK_lose hs ho hw]
     obtain ⟨h4,h5⟩:=loopK_dm hr l _ h1
     exact ⟨h4,fun x=>by rw [h5 x,h3 x]⟩
theorem tryK_dm {adj:Nat→List Nat}:∀ (k f:Nat) (σ : KS Nat),Dm σ → Dm (tryK adj k f σ).2∧∀ x,((tryK adj k f σ).2.to x).isSome=((σ.to x).isSome||((tryK adj k f σ).1&&x==f))
 | 0,_,σ,h=>⟨h,fun x=>by show (σ.to x).isSome=((σ.to x).isSome||(false&&_));simp⟩
 | k+1,f,σ,h=>loopK_dm (fun p τ hτ =>tryK_dm k p τ hτ) (adj f) σ h
def ks0 (μ : MS Nat):KS Nat:=⟨fun _=>false,μ.of,μ.to⟩
theorem stepM_eq (adj:Nat→List Nat) (k f:Nat) (μ : MS Nat):(stepM adj k μ f).of=(tryK adj k f (ks0 μ)).2.of∧(stepM adj k μ f).to=(tryK adj k f (ks0 μ)).2.to∧(stepM adj k μ f).n=bif (tryK adj k f (ks0 μ)).1 then μ.n+1 else μ.n:=by
 unfold stepM ks0
 cases hq:tryK adj k f ⟨fun _=>false,μ.of,μ.to⟩ with
 | mk w τ =>cases w <;> exact ⟨rfl,rfl,rfl⟩
structure ToN (F D:List Nat) (μ : MS Nat):Prop where
 dm:Dm (ks0 μ)
 dom:∀ x,(μ.to x).isSome=true→x∈D
 num:(F.filter fun x=>(μ.to x).isSome).length = μ.n
theorem toN_step {adj:Nat→List Nat} {k:Nat} {F D:List Nat} {μ : MS Nat} {f:Nat} (hF:F.Nodup) (hf:f∈F) (hD:f ∉ D) (h:ToN F D μ):ToN F (D++[f]) (stepM adj k μ f):=by
 obtain ⟨e1,e2,e3⟩:=stepM_eq adj k f μ
 obtain ⟨h1,h2⟩:=tryK_dm (adj:=adj) k f (ks0 μ) h.dm
 refine ⟨fun s p hs=>?_,fun x hx=>?_,?_⟩
 ·show ((stepM adj k μ f).to p).isSome=true
  rw [e2]
  exact h1 s p (by rw [←e1];exact hs)
 ·rw [e2,h2 x] at hx
  rw [List.mem_append,List.mem_singleton]
  simp only [Bool.or_eq_true,Bool.and_eq_true,beq_iff_eq] at hx
  rcases hx with hx | hx
  ·exact .inl (h.dom x hx)
  ·exact .inr hx.2
 ·rw [e3,e2]
  cases hw:(tryK adj k f (ks0 μ)).1 with
  | false =>
   simp only [cond_false]
   rw [←h.num]
   congr 2;funext x
   rw [h2 x,hw]
   simp [ks0]
  | true =>
   simp only [cond_true]
   rw [←h.num]
   refine filter_one hF hf ?_ ?_ fun t ht=>?_
   ·cases ht:(μ.to f).isSome with
    | false=>rfl
    | true=>exact absurd (h.dom f ht) hD
   ·rw [h2 f,hw];simp
   ·rw [h2 t,hw,beq_false_of_ne ht];simp [ks0]
theorem toN_fold {adj:Nat→List Nat} {k:Nat} {F:List Nat} (hF:F.Nodup):∀ (l D:List Nat) (μ : MS Nat),(D++l).Nodup→(∀ x,x∈l→x∈F)→ToN F D μ → ToN F (D++l) (l.foldl (stepM adj k) μ)
 | [],D,μ,_,_,h=>by rw [List.append_nil];exact h
 | f::l,D,μ,hn,hl,h=>by
  have e:D++f::l=(D++[f])++l:=by rw [List.append_assoc];rfl
  have hfD:f ∉ D:=fun hm=>(List.nodup_append.1 hn).2.2 f hm f (List.mem_cons_self ..) rfl
  rw [e] at hn ⊢
  exact toN_fold hF l (D++[f]) _ hn (fun x hx=>hl x (List.mem_cons_of_mem _ hx)) (toN_step hF (hl f (List.mem_cons_self ..)) hfD h)
def mpM (μ : MS Nat):Nat→Option PV:=mpS (ks0 μ)
theorem mpS_congr {σ τ : KS Nat} (h1 : σ.of = τ.of) (h2 : σ.to = τ.to):mpS σ = mpS τ :=by
 unfold mpS;rw [h1,h2]
def matK (P:List (Nat×Nat)) (k:Nat):MS Nat:=((firstsP P []).take k).foldl (stepM (nextP P) 61) ⟨fun _=>none,fun _=>none,0⟩
theorem matK_all (P:List (Nat×Nat)):matK P (firstsP P []).length=matchM P:=by
 unfold matK matchM runM;rw [List.take_length]
theorem matK_step (P:List (Nat×Nat)) {k:Nat} (h:k<(firstsP P []).length):matK P (k+1)=stepM (nextP P) 61 (matK P k) ((firstsP P []).getD k 0):=by
 unfold matK
 rw [List.take_add_one,List.getElem?_eq_getElem h,List.foldl_append,getD_get h];rfl
theorem matK_ws {P:List (Nat×Nat)} {B:List Nat} (hG:MG P B):∀ k,k≤(firstsP P []).length→WS (fun f=>f∈firstsP P []) (fun x=>x∈B) (ks0 (matK P k))
 | 0,_=>⟨fun s g h=>(nomatch h),fun x y h=>(nomatch h)⟩
 | k+1,h=>by
  have ih:=matK_ws hG k (by omega)
  have hf:(firstsP P []).getD k 0∈firstsP P []:=getD_mem (by omega)
  have h1:=tryK_ws (Fs:=fun f=>f∈firstsP P []) (Sec:=fun x=>x∈B) (fun p hp x hx=>hG.adj p hp x hx) 61 _ (ks0 (matK P k)) hf ih
  obtain ⟨e1,e2,_⟩:=stepM_eq (nextP P) 61 ((firstsP P []).getD k 0) (matK P k)
  rw [matK_step P (by omega)]
  exact ⟨fun s g hs=>h1.of_ s g (by rw [←e1];exact hs),fun x y hx=>h1.to_ x y (by rw [←e2];exact hx)⟩
theorem nodup_left {F B:List Nat} (h:(F++B).Nodup):F.Nodup:=(List.nodup_append.1 h).1
theorem cnt_two {P:List (Nat×Nat)} {B:List Nat} (hG:MG P B) (hnum:(B.filter fun s=>((matchM P).of s).isSome).length=(matchM P).n):cntP (firstsP P []++B) (mpM (matchM P))=2*(matchM P).n:=by
 have hW:=matK_ws hG _ (Nat.le_refl _)
 rw [matK_all] at hW
 have hT:=toN_fold (adj:=nextP P) (k:=61) (nodup_left hG.nod) (firstsP P []) [] ⟨fun _=>none,fun _=>none,0⟩ (by rw [List.nil_append];exact nodup_left hG.nod) (fun x hx=>hx) ⟨fun s p h=>(nomatch h),fun x h=>(by cases h),by simp⟩
 have hT:ToN (firstsP P []) ([]++firstsP P []) (matchM P):=hT
 unfold cntP
 rw [List.filter_append,List.length_append]
 have h1:((firstsP P []).filter fun x=>(mpM (matchM P) x).isSome)=(firstsP P []).filter fun x=>((matchM P).to x).isSome:=by
  refine List.filter_congr fun x hx=>?_
  have ho:(ks0 (matchM P)).of x=none:=by
   cases ho:(ks0 (matchM P)).of x with
   | none=>rfl
   | some g=>exact absurd (hW.of_ x g ho).1 (hG.dis x hx)
  unfold mpM mpS
  rw [ho]
  show (match (matchM P).to x with | some y=>some (PV.int .i64 (Int.ofNat y)) | none=>none).isSome=_
  cases (matchM P).to x <;> rfl
 have h2:(B.filter fun x=>(mpM (matchM P) x).isSome)=B.filter fun x=>((matchM P).of x).isSome:=by
  refine List.filter_congr fun x hx=>?_
  have ht:(ks0 (matchM P)).to x=none:=by
   cases ht:(ks0 (matchM P)).to x with
   | none=>rfl
   | some y=>exact absurd hx (hG.dis x (hW.to_ x y ht))
  unfold mpM mpS
  rw [ht]
  show (match (matchM P).of x with | some g=>some (PV.int .i64 (Int.ofNat g)) | none=>none).isSome=_
  cases (matchM P).of x <;> rfl
 rw [h1,h2,hT.num,hnum];omega
end Go.Proofs.YtbieflpgjmgaiaaGreat
/- Walks: the matching. -/
set_option maxRecDepth 100000
namespace Go.Proofs.YtbieflpgjmgaiaaGreat
open Kuhn
variable {r:Rm}
theorem cross_mem {c:List Opn} {p:Nat×Nat} (h:p∈cross c):∃ a,a∈c∧∃ b,b∈c∧isP a b=true∧src a=p.1∧src b=p.2:=edg_iff.1 (show edg c p.1 p.2 from h)
theorem first_of {c:List Opn} {f:Nat} (h:f∈firstsP (cross c) []):∃ a,a∈c∧a.register=1∧src a=f:=by
 rcases firstsP_mem.1 h with h | ⟨x,h⟩
 ·cases h
 obtain ⟨a,ha,b,hb,h1,h2,_⟩:=cross_mem h
 exact ⟨a,ha,(isP_regs h1).1,h2⟩
theorem mg_cross {c:List Opn} (h:Vc c) (hn:c.length≤60):MG (cross c) (seconds c):=by
 have dis:∀ x,x∈firstsP (cross c) []→x ∉ seconds c:=fun x hx hs=>by
  obtain ⟨a,ha,hr,e⟩:=first_of hx
  obtain ⟨b,hb,e2⟩:=List.mem_map.1 hs
  obtain ⟨hb1,hb2⟩:=List.mem_filter.1 hb
  have:=h.inj ha hb1 (e.trans e2.symm)
  subst this
  have hb2:a.register=2:=by simpa using hb2
  omega
 refine ⟨fun f hf x hx=>?_,dis,fun f hf=>?_,fun f hf=>?_,fun f hf=>?_,?_,?_⟩
 ·obtain ⟨a,ha,b,hb,h1,_,h2⟩:=cross_mem (nextP_mem.1 hx)
  exact List.mem_map.2 ⟨b,List.mem_filter.2 ⟨hb,by simpa using (isP_regs h1).2.1⟩,h2⟩
 ·obtain ⟨a,ha,_,rfl⟩:=first_of hf
  have:=(h.ok a ha).pos
  have:=(h.ok a ha).src
  simp only [Int.ofNat_eq_natCast] at this;omega
 ·obtain ⟨a,ha,_,rfl⟩:=first_of hf
  have:=(h.ok a ha).pos
  have:=(h.ok a ha).src
  simp only [Int.ofNat_eq_natCast] at this;omega
 ·obtain ⟨b,hb,rfl⟩:=List.mem_map.1 hf
  have:=(h.ok b (List.mem_filter.1 hb).1).pos
  have:=(h.ok b (List.mem_filter.1 hb).1).src
  simp only [Int.ofNat_eq_natCast] at this;omega
 ·exact List.nodup_append.2 ⟨firstsP_nodup List.nodup_nil,(h.filter _).nodup,fun a ha b hb e=>dis a ha (e ▸ hb)⟩
 ·have h1:(cross c).length≤c.length*c.length:=flat_le fun a _=>by
   rw [List.length_map];exact List.length_filter_le _ _
  exact Nat.le_trans h1 (Nat.le_trans (Nat.mul_le_mul hn hn) (by decide))
theorem rising_cross {c:List Opn} (h:Vc c):Rising (cross c):=by
 have hp:(cross c).Pairwise fun p q=>p.1≤q.1:=by
  unfold cross
  rw [List.pairwise_flatMap]
  refine ⟨fun a _=>?_,?_⟩
  ·rw [List.pairwise_map]
   exact List.pairwise_of_forall fun _ _=>Nat.le_refl _
  ·refine h.rise.imp_of_mem fun {a b} ha hb hab p hp q hq=>?_
   obtain ⟨x,_,rfl⟩:=List.mem_map.1 hp
   obtain ⟨y,_,rfl⟩:=List.mem_map.1 hq
   have h1:=(h.ok a ha).src
   have h2:=(h.ok b hb).src
   simp only [Int.ofNat_eq_natCast] at h1 h2
   show src a≤src b
   omega
 intro i j hij hj
 have:=List.pairwise_iff_getElem.1 hp i j (by omega) hj hij
 rw [List.getD_eq_getElem?_getD,List.getD_eq_getElem?_getD,List.getElem?_eq_getElem hj,List.getElem?_eq_getElem (by omega)]
 exact this
def fN (l:List Nat):Nat→List PV:=fun q=>[.int .i64 (Int.ofNat (l.getD q 0))]
theorem app_nat (l:List Nat) (y:Nat) (q:Nat) (hq:q<l.length+1):(bif Nat.blt q l.length then fN l q else ([PV.int .i64 (Int.ofNat y)].drop ((q - l.length)*1)).take 1)=fN (l++[y]) q:=by
 unfold fN
 by_cases e:q<l.length
 ·rw [blt_t e]
  simp only [cond_true,List.getD_eq_getElem?_getD]
  rw [List.getElem?_append_left e]
 ·have:q=l.length:=by omega
  subst this
  rw [blt_f e,Nat.sub_self]
  simp
theorem firstsP_len:∀ (P:List (Nat×Nat)) (acc:List Nat),(firstsP P acc).length≤acc.length+P.length
 | [],acc=>Nat.le_refl _
 | p::l,acc=>by
  have:=firstsP_len l (bif acc.contains p.1 then acc else acc++[p.1])
  unfold firstsP
  cases hc:acc.contains p.1 with
  | true=>rw [hc] at this;simp only [cond_true,List.length_cons] at this ⊢;omega
  | false=>rw [hc] at this;simp only [cond_false,List.length_cons,List.length_append,List.length_singleton,List.length_nil] at this ⊢;omega
def pN (P:List (Nat×Nat)) (k:Nat):Nat×Nat:=P.getD k (0,0)
def tk (P:List (Nat×Nat)) (k:Nat):List (Nat×Nat):=P.take k
def matM (P:List (Nat×Nat)):Nat→VS
 | 0=>[(0,.cells [.map 1] 130),(1,.mapA none (nxP []) []),(2,.acc 0 1 (fN []) 3)]
 | k+1=>[(0,.cells [.map 1] 130),(1,.mapA none (nxP (tk P (k+1))) [((pN P k).1,.sl 3 1 0 (nextP (tk P (k+1)) (pN P k).1).length (nextP (tk P (k+1)) (pN P k).1).length 0)]),(2,.acc (firstsP (tk P (k+1)) []).length 1 (fN (firstsP (tk P (k+1)) [])) 3),(3,.arr (nextP (tk P (k+1)) (pN P k).1).length 1 (fN (nextP (tk P (k+1)) (pN P k).1)) 3)]
theorem map_step {m:Option Nat} {p p':Nat→Option PV} {f:Nat} {a b:AV} (h:∀ x,x≠f→p x=p' x) (ha:AImp a b):BImp (.mapA m p [(f,a)]) (.mapA none p' [(f,b)]) :=
 BImp.mapX (.inr rfl) ha h fun k _=>⟨rfl,fun _=>AImp.refl _⟩
theorem map_step2 {m:Option Nat} {p p':Nat→Option PV} {f g:Nat} {a b c:AV} (e:g=f) (h:∀ x,x≠f→p x=p' x) (ha:AImp a b):BImp (.mapA m p [(f,a),(g,c)]) (.mapA none p' [(f,b)]):=by
 subst e
 refine BImp.mapX (.inr rfl) ha h fun k hk=>?_
 have hb:Nat.beq g k=false:=beq_ne fun e=>hk e.symm
 refine ⟨?_,fun _=>?_⟩
 ·show (bif Nat.beq g k then true else (p k).isSome)=_
  rw [hb];rfl
 ·show AImp (bif Nat.beq g k then c else .p ((p k).getD .nilp)) _
  rw [hb];exact AImp.refl _
theorem eNs_lst {l:List Nat} (h:l≠[]) {f:Nat→List PV} (hf:∀ k,k<l.length→f k=fN l k):AImp (.p (.lst 3 false l.length f)) (.p (eNs l)):=by
 have e:l.isEmpty=false:=by cases l <;> first | rfl | exact absurd rfl h
 unfold eNs
 rw [e]
 exact AImp.lst hf
theorem nxP_freeze {P:List (Nat×Nat)} {f:Nat} {m:Option Nat} (h:nextP P f≠[]) {a:AV} (ha:AImp a (.p (eNs (nextP P f)))):BImp (.mapA m (nxP P) [(f,a)]) (.mapA none (nxP P) []) :=
 BImp.mapF (.inr rfl) ha fun k=>by
  cases hb:Nat.beq f k with
  | true=>have:=beq_eq hb;subst this;show nxP P f=some _;unfold nxP;rw [if_neg h]
  | false=>rfl
theorem tk_succ {P:List (Nat×Nat)} {k:Nat} (h:k<P.length):tk P (k+1)=tk P k++[pN P k]:=takeP h
theorem newF {P:List (Nat×Nat)} {k:Nat} (h:k<P.length) (hn:nextP (tk P k) (pN P k).1=[]):firstsP (tk P (k+1)) []=firstsP (tk P k) []++[(pN P k).1]∧nextP (tk P (k+1)) (pN P k).1=[(pN P k).2]∧∀ x,x≠(pN P k).1→nxP (tk P k) x=nxP (tk P (k+1)) x:=by
 have hc:(firstsP (tk P k) []).contains (pN P k).1=false:=by
  cases hc:(firstsP (tk P k) []).contains (pN P k).1 with
  | false=>rfl
  | true=>exact absurd hn (firsts_has.1 hc)
 rw [tk_succ h]
 refine ⟨by rw [firstsP_snoc,hc];rfl,by rw [nextP_snoc,Nat.beq_refl,hn];rfl,fun x hx=>nxP_ne hx⟩
theorem oldF {P:List (Nat×Nat)} {k:Nat} (h:k<P.length) (hn:nextP (tk P k) (pN P k).1≠[]):firstsP (tk P (k+1)) []=firstsP (tk P k) []∧nextP (tk P (k+1)) (pN P k).1=nextP (tk P k) (pN P k).1++[(pN P k).2]∧∀ x,x≠(pN P k).1→nxP (tk P k) x=nxP (tk P (k+1)) x:=by
 rw [tk_succ h]
 refine ⟨by rw [firstsP_snoc,firsts_has.2 hn];rfl,by rw [nextP_snoc,Nat.beq_refl];rfl,fun x hx=>nxP_ne hx⟩
theorem cur_ne {P:List (Nat×Nat)} {k:Nat} (h:k<P.length):nextP (tk P (k+1)) (pN P k).1≠[]:=by
 rw [tk_succ h,nextP_snoc,Nat.beq_refl]
 show nextP _ _++[_]≠[]
 simp
theorem BImp.arrN {n m sz:Nat} {f g:Nat→List PV} {t:TypeId} (e:n=m) (h:∀ k,k<n→f k=g k):BImp (.arr n sz f t) (.arr m sz g t):=by
 subst e;exact BImp.arr h
theorem one_nat {P:List Nat} {y:Nat} (h:P=[y]) (k:Nat) (hk:k<1):List.take 1 (List.drop (k*1) [PV.int .i64 (Int.ofNat y)])=fN P k:=by
 subst h
 have:k=0:=by omega
 subst this;rfl
theorem cnt0 (U:List Nat) (P:List (Nat×Nat)):cntP U (mpM (matK P 0))=0:=by
 unfold cntP
 rw [List.length_eq_zero_iff,List.filter_eq_nil_iff]
 intro x _
 exact Bool.false_ne_true
def kA (w:Bool) (b:Bool) (l:List Opn) (d:Int):AV:=bif w then .ref 0 0 else .p (knP b l d)
def kM (w:Bool) (b:Bool) (l:List Opn) (d:Int) (bar:Nat→Bool):VS:=bif w then kown b l d bar else []
set_option maxHeartbeats 4000000 in
theorem matching_ok {b:Bool} {l:List Opn} {d:Int} {bar:Nat→Bool} (w:Bool) (hw:w=false→bar=nb) (hz:Szs l) (hR:Reg l) :
  VC (sE r) [] 91 [kA w b l d] (kM w b l d bar) (fun a L=>a = .map 0∧L=[(0,.mapA (some (2*lowN (edg (cnt l d bar)))) (mpM (matchM (cross (cnt l d bar)))) [])]):=by
 have hV:=hR.cnt d bar
 have hc60:(cnt l d bar).length≤60:=Vc.len hR rfl
 have hG:=mg_cross hV hc60
 have hRis:=rising_cross hV
 have hcnt:cntP (firstsP (cross (cnt l d bar)) []++seconds (cnt l d bar)) (mpM (matchM (cross (cnt l d bar))))=2*lowN (edg (cnt l d bar)):=by
  rw [cnt_two hG (match_inv hV hc60).num,lowN_eq (low_c hV hc60)]
 refine VC.of (fn:=Tryz.f91) tb_ok (wk_ok rfl) (by kernel_rfl) rfl rfl ?_
 have hpa:=pairs_ok (r:=r) (b:=b) (d:=d) hz hR
 have hpb:=pairsB_ok (r:=r) (b:=b) (d:=d) (bar:=bar) hz hR
 revert hcnt hG hRis hpa hpb
 generalize hP:cross (cnt l d bar)=P
 intro hG hRis hcnt hpa hpb
 have hlen:=hG.len
 cases w
 case' false =>
  rw [←hw rfl,hP] at hpa
  refine VSt.go tb_ok false [] 200 rfl AllP.n ?_
  refine VSt.pc rfl rfl rfl rfl rfl rfl rfl rfl (hpa) ?_
  refine VSt.go tb_ok false [] 200 rfl AllP.n ?_
  refine VSt.viewC (Vw.kp [3,4,14,15,16] [(0,1),(1,0)] rfl) ?_
 case' true =>
  refine VSt.go tb_ok false [] 200 rfl AllP.n ?_
  refine VSt.cg [(0,0),(1,1)] (stc:=[]) rfl rfl rfl rfl rfl rfl rfl rfl rfl rfl rfl rfl hpb ?_
  rintro a L' ⟨rfl,rfl⟩
  refine VSt.go tb_ok false [] 200 rfl AllP.n ?_
  refine VSt.viewC (Vw.kp [3,4,14,15,16] [(0,3),(1,2)] rfl) ?_
 all_goals
  refine VSt.viewC (Vw.adopt 2 1 (fN []) 3 rfl) ?_
  refine VSt.viewC (Wk.vw (ps:=[(0,0),(1,1),(2,2)]) (F0:=[(3,.ref 0 0),(4,.acc true 2 1 0),(14,.p (ePairs P)),(15,nv P.length),(16,nv 0)]) (L0:=matM P 0) ⟨rfl,rfl,(by repeat (first | exact wf_nil | refine wf_back rfl rfl rfl ?_ | refine wf_imp rfl rfl AImp.nilAcc ?_)),_,rfl,⟨rfl,BImp.refl _,rfl,BImp.mapP (.inr rfl) (fun _=>(if_pos rfl).symm),rfl,BImp.refl _,trivial⟩⟩) ?_
  refine VSt.rangeT tb_ok P.length (by omega) [3,14] (fun k=>[(4,.acc true 2 1 (firstsP (tk P k) []).length)]) (fun k=>matM P k) (fun _=>True) rfl rfl rfl (fun _=>rfl) rfl rfl (u0_cons rfl (AImp.refl _) u0_nil) (LImp.refl _) trivial (fun k hk _=>?_) (fun _=>?_)
  ·rcases Nat.eq_zero_or_pos k with h0 | h0
   ·subst h0
    have hnil:nextP (tk P 0) (pN P 0).1=[]:=rfl
    have htk:(tk P 0).length≤3600:=Nat.zero_le _
    have hfl:(firstsP (tk P 0) []).length≤3600:=Nat.le_trans (firstsP_len _ _) (by rw [List.length_nil,Nat.zero_add];exact htk)
    refine VSt.go tb_ok false [6] 200 rfl (AllP.c ‹_› (AllP.c rfl AllP.n)) ?_
    refine VSt.aside (eP (pN P 0)) tb_ok rfl rfl rfl rfl rfl rfl rfl rfl rfl rfl rfl ?_
    refine VSt.go tb_ok false [24] 200 rfl AllP.n ?_
    refine VSt.putO 23 (.p (.lst 0 true 0 fun _=>[])) rfl (AImp.of_eq (by show AV.p ((nxP (tk P 0) (pN P 0).1).getD (.lst 0 true 0 fun _=>[]))=_;unfold nxP;rw [if_pos hnil];rfl)) ?_
    refine VSt.go tb_ok false [] 200 rfl AllP.n ?_
    refine VSt.cond rfl (fun _=>?_) (fun h=>absurd h (by decide))
    refine VSt.go tb_ok false [37] 200 rfl (AllP.c (by omega) (AllP.c (by omega) (AllP.c (fun q hq=>match q,hq with | 0,_=>rfl) (AllP.c rfl (AllP.c rfl (AllP.c rfl AllP.n)))))) ?_
    refine VSt.putD 36 (.p (.lst 0 true 0 fun _=>[])) rfl (AImp.of_eq (by show AV.p ((nxP (tk P 0) (pN P 0).1).getD (.lst 0 true 0 fun _=>[]))=_;unfold nxP;rw [if_pos hnil];rfl)) ?_
    refine VSt.go tb_ok false [] 200 rfl (AllP.c (by omega) (AllP.c (by omega) (AllP.c (fun q hq=>match q,hq with | 0,_=>rfl) (AllP.c ‹_› AllP.n)))) ?_
    have hF:=newF (P:=P) (k:=0) hk hnil
    have hN:(firstsP (tk P (0+1)) []).length=(firstsP (tk P 0) []).length+1:=by rw [hF.1,List.length_append];rfl
    have hM:(nextP (tk P (0+1)) (pN P 0).1).length=1:=by rw [hF.2.1];rfl
    refine ⟨?_,trivial⟩
    exact Wk.vw (ps:=[(0,0),(1,1),(2,3),(3,4)]) ⟨rfl,rfl,(by repeat (first | exact wf_nil | refine wf_back rfl rfl rfl ?_ | refine wf_imp rfl rfl (AImp.acc hN.symm (fun _=>rfl)) ?_)),_,rfl,⟨rfl,BImp.refl _,rfl,map_step hF.2.2 (AImp.of_eq (by show AV.sl 3 1 0 1 1 0=AV.sl 3 1 0 _ _ 0;rw [hM])),rfl,BImp.acc hN.symm (fun x hx=>by rw [hF.1];exact app_nat _ _ x hx),rfl,BImp.arrN hM.symm (fun x hx=>one_nat hF.2.1 x hx),trivial⟩⟩
   ·obtain ⟨q,rfl⟩:∃ q,k=q+1:=⟨k - 1,by omega⟩
    have htk:(tk P (q+1)).length≤3600:=Nat.le_trans (List.length_take_le' ..) hlen
    have hne:=cur_ne (P:=P) (k:=q) (by omega)
    have hnl:=nextP_len (tk P (q+1)) (pN P q).1
    by_cases hc:(pN P q).1=(pN P (q+1)).1
    ·have hF:=oldF (P:=P) (k:=q+1) hk (by rw [←hc];exact hne)
     have hN:(nextP (tk P (q+1+1)) (pN P (q+1)).1).length=(nextP (tk P (q+1)) (pN P q).1).length+1:=by rw [hF.2.1,List.length_append,hc];rfl
     refine VSt.go tb_ok false [6] 200 rfl (AllP.c ‹_› (AllP.c rfl AllP.n)) ?_
     refine VSt.aside (eP (pN P (q+1))) tb_ok rfl rfl rfl rfl rfl rfl rfl rfl rfl rfl rfl ?_
     refine VSt.go tb_ok false [] 200 rfl (AllP.c ‹_› AllP.n) ?_
     refine VSt.cond rfl (fun h=>absurd h (by decide)) (fun _=>?_)
     refine VSt.go tb_ok false [] 200 rfl (AllP.c ‹_› (AllP.c (by omega) (AllP.c (by omega) (AllP.c (fun q hq=>match q,hq with | 0,_=>rfl) (AllP.c rfl (AllP.c rfl (AllP.c (by omega) (AllP.c (by omega) (AllP.c rfl AllP.n))))))))) ?_
     refine ⟨?_,trivial⟩
     dsimp only
     rw [hF.1]
     exact Wk.vw (ps:=[(0,0),(1,1),(2,2),(3,4)]) ⟨rfl,rfl,(by repeat (first | exact wf_nil | refine wf_back rfl rfl rfl ?_)),_,rfl,⟨rfl,BImp.refl _,rfl,map_step2 hc hF.2.2 (AImp.of_eq (by show AV.sl 3 1 0 _ _ 0=AV.sl 3 1 0 _ _ 0;rw [hN])),rfl,BImp.acc (congrArg List.length hF.1.symm) (fun x _=>by rw [hF.1]),rfl,BImp.arrN hN.symm (fun x hx=>by rw [hF.2.1,←hc,←app_nat _ _ x hx,Nat.zero_add]),trivial⟩⟩
    ·have hnil:nextP (tk P (q+1)) (pN P (q+1)).1=[]:=rising_cur hRis hk (fun h=>hc h.symm)
     refine VSt.viewC (Vw.freeze 3 rfl rfl ⟨Nat.le_of_eq (Nat.zero_add _),Nat.le_refl _,rfl⟩) ?_
     refine VSt.viewC (Wk.vw (ps:=[(0,0),(1,1),(2,2)]) (F0:=[(3,.ref 0 0),(4,.acc true 2 1 (firstsP (tk P (q+1)) []).length),(14,.p (ePairs P)),(15,nv P.length),(16,nv (q+1))]) (L0:=[(0,.cells [.map 1] 130),(1,.mapA none (nxP (tk P (q+1))) []),(2,.acc (firstsP (tk P (q+1)) []).length 1 (fN (firstsP (tk P (q+1)) [])) 3)]) ⟨rfl,rfl,(by repeat (first | exact wf_nil | refine wf_back rfl rfl rfl ?_)),_,rfl,⟨rfl,BImp.refl _,rfl,nxP_freeze hne (eNs_lst hne (fun k _=>by rw [Nat.zero_add])),rfl,BImp.refl _,trivial⟩⟩) ?_
     have hfl:(firstsP (tk P (q+1)) []).length≤3600:=Nat.le_trans (firstsP_len _ _) (by rw [List.length_nil,Nat.zero_add];exact htk)
     refine VSt.go tb_ok false [6] 200 rfl (AllP.c ‹_› (AllP.c rfl AllP.n)) ?_
     refine VSt.aside (eP (pN P (q+1))) tb_ok rfl rfl rfl rfl rfl rfl rfl rfl rfl rfl rfl ?_
     refine VSt.go tb_ok false [24] 200 rfl AllP.n ?_
     refine VSt.putO 23 (.p (.lst 0 true 0 fun _=>[])) rfl (AImp.of_eq (by show AV.p ((nxP (tk P (q+1)) (pN P (q+1)).1).getD (.lst 0 true 0 fun _=>[]))=_;unfold nxP;rw [if_pos hnil];rfl)) ?_
     refine VSt.go tb_ok false [] 200 rfl AllP.n ?_
     refine VSt.cond rfl (fun _=>?_) (fun h=>absurd h (by decide))
     refine VSt.go tb_ok false [37] 200 rfl (AllP.c (by omega) (AllP.c (by omega) (AllP.c (fun q hq=>match q,hq with | 0,_=>rfl) (AllP.c rfl (AllP.c rfl (AllP.c rfl AllP.n)))))) ?_
     refine VSt.putD 36 (.p (.lst 0 true 0 fun _=>[])) rfl (AImp.of_eq (by show AV.p ((nxP (tk P (q+1)) (pN P (q+1)).1).getD (.lst 0 true 0 fun _=>[]))=_;unfold nxP;rw [if_pos hnil];rfl)) ?_
     refine VSt.go tb_ok false [] 200 rfl (AllP.c (by omega) (AllP.c (by omega) (AllP.c (fun q hq=>match q,hq with | 0,_=>rfl) (AllP.c ‹_› AllP.n)))) ?_
     have hF:=newF (P:=P) (k:=(q+1)) hk hnil
     have hN:(firstsP (tk P ((q+1)+1)) []).length=(firstsP (tk P (q+1)) []).length+1:=by rw [hF.1,List.length_append];rfl
     have hM:(nextP (tk P ((q+1)+1)) (pN P (q+1)).1).length=1:=by rw [hF.2.1];rfl
     refine ⟨?_,trivial⟩
     exact Wk.vw (ps:=[(0,0),(1,1),(2,3),(3,4)]) ⟨rfl,rfl,(by repeat (first | exact wf_nil | refine wf_back rfl rfl rfl ?_ | refine wf_imp rfl rfl (AImp.acc hN.symm (fun _=>rfl)) ?_)),_,rfl,⟨rfl,BImp.refl _,rfl,map_step hF.2.2 (AImp.of_eq (by show AV.sl 3 1 0 1 1 0=AV.sl 3 1 0 _ _ 0;rw [hM])),rfl,BImp.acc hN.symm (fun x hx=>by rw [hF.1];exact app_nat _ _ x hx),rfl,BImp.arrN hM.symm (fun x hx=>one_nat hF.2.1 x hx),trivial⟩⟩
  ·have hfin:∀ Q:Prop,Q→Q:=fun _ h=>h
   rcases Nat.eq_zero_or_pos P.length with h0 | h0
   case' inl =>
    have hP0:P=[]:=List.length_eq_zero_iff.1 h0
    subst hP0
    refine VSt.viewC (Wk.vw (ps:=[(0,0),(1,1),(2,2)]) (F0:=[(3,.ref 0 0),(4,.acc true 2 1 (firstsP [] []).length)]) (L0:=[(0,.cells [.map 1] 130),(1,.mapA none (nxP []) []),(2,.acc (firstsP [] []).length 1 (fN (firstsP [] [])) 3)]) ⟨rfl,rfl,(by repeat (first | exact wf_nil | refine wf_back rfl rfl rfl ?_)),_,rfl,LImp.refl _⟩) ?_
    generalize hP1:([]:List (Nat×Nat))=P at *
   case' inr =>
    obtain ⟨q,hq⟩:∃ q,P.length=q+1:=⟨P.length - 1,by omega⟩
    have hne:=cur_ne (P:=P) (k:=q) (by omega)
    have htk:tk P (q+1)=P:=by unfold tk;rw [←hq,List.take_length]
    rw [hq]
    refine VSt.viewC (Vw.freeze 3 rfl rfl ⟨Nat.le_of_eq (Nat.zero_add _),Nat.le_refl _,rfl⟩) ?_
    refine VSt.viewC (Wk.vw (ps:=[(0,0),(1,1),(2,2)]) (F0:=[(3,.ref 0 0),(4,.acc true 2 1 (firstsP (tk P (q+1)) []).length)]) (L0:=[(0,.cells [.map 1] 130),(1,.mapA none (nxP (tk P (q+1))) []),(2,.acc (firstsP (tk P (q+1)) []).length 1 (fN (firstsP (tk P (q+1)) [])) 3)]) ⟨rfl,rfl,(by repeat (first | exact wf_nil | refine wf_back rfl rfl rfl ?_)),_,rfl,⟨rfl,BImp.refl _,rfl,nxP_freeze hne (eNs_lst hne (fun k _=>by rw [Nat.zero_add])),rfl,BImp.refl _,trivial⟩⟩) ?_
    rw [htk]
   all_goals
    refine VSt.go tb_ok false [] 200 rfl AllP.n ?_
    refine VSt.viewC (Vw.freezeA 2 rfl rfl ⟨Nat.le_refl _,rfl,Nat.le_refl _,rfl⟩) ?_
    refine VSt.rangeT tb_ok (firstsP P []).length (by have:=firstsP_len P [];rw [List.length_nil] at this;omega) [3,7,43] (fun _=>[]) (fun j=>[(4,.cells [.map 3] 110),(3,.mapA (some (cntP (firstsP P []++seconds (cnt l d bar)) (mpM (matK P j)))) (mpM (matK P j)) []),(0,.cells [.map 1] 130),(1,.mapA none (nxP P) [])]) (fun _=>True) rfl rfl rfl (fun _=>rfl) rfl rfl u0_nil ⟨rfl,BImp.refl _,rfl,BImp.mapP (.inl (by rw [cnt0])) (fun _=>rfl),rfl,BImp.refl _,rfl,BImp.refl _,trivial⟩ trivial (fun j hj _=>?_) (fun _=>?_)
    ·have hf:(firstsP P []).getD j 0∈firstsP P []:=getD_mem hj
     have hW:=matK_ws hG j (Nat.le_of_lt hj)
     have hleft:left (seconds (cnt l d bar)) (ks0 (matK P j))<61:=by
      have h1:left (seconds (cnt l d bar)) (ks0 (matK P j))≤(seconds (cnt l d bar)).length:=List.length_filter_le _ _
      have h2:(seconds (cnt l d bar)).length≤(cnt l d bar).length:=by
       unfold seconds
       rw [List.length_map]
       exact List.length_filter_le _ _
      omega
     have hst:=step_ok (r:=r) hG 61 _ (ks0 (matK P j)) hf hW hleft
     have e:mpM (matK P (j+1))=mpS (tryK (nextP P) 61 ((firstsP P []).getD j 0) (ks0 (matK P j))).2:=by
      rw [matK_step P hj]
      obtain ⟨e1,e2,_⟩:=stepM_eq (nextP P) 61 ((firstsP P []).getD j 0) (matK P j)
      exact mpS_congr e1 e2
     refine VSt.go tb_ok false [53] 200 rfl (AllP.c ‹_› (AllP.c rfl AllP.n)) ?_
     refine VSt.viewO (Wk.vw (ps:=[(0,0),(1,1),(6,6),(5,5),(4,4),(3,3),(7,7)]) (F0:=[(3,.ref 0 0),(7,.ref 4 0),(43,.p (.lst 3 (true&&(firstsP P []).length.beq 0) (firstsP P []).length (fN (firstsP P [])))),(44,nv (firstsP P []).length),(45,nv j),(51,.fn 123 [] [.ref 0 0,.ref 6 0,.ref 4 0,.ref 7 0]),(52,nv ((firstsP P []).getD j 0))]) (L0:=[(0,.cells [.map 1] 130),(1,.mapA none (nxP P) []),(6,.cells [.map 5] 96),(5,.mapA none (seenP (ks0 (matK P j))) []),(4,.cells [.map 3] 110),(3,.mapA (some (cntP (firstsP P []++seconds (cnt l d bar)) (mpS (ks0 (matK P j))))) (mpS (ks0 (matK P j))) []),(7,.cells [.fn 123 [] [.ref 0 0,.ref 6 0,.ref 4 0,.ref 7 0]] 80)]) ⟨rfl,rfl,(by repeat (first | exact wf_nil | refine wf_back rfl rfl rfl ?_)),_,rfl,⟨rfl,BImp.refl _,rfl,BImp.refl _,rfl,BImp.refl _,rfl,BImp.mapP (.inr rfl) (fun _=>rfl),rfl,BImp.refl _,rfl,BImp.refl _,rfl,BImp.refl _,trivial⟩⟩) ?_
     refine VSt.cc [(0,0),(1,1),(2,6),(3,5),(4,4),(5,3),(6,7)] rfl rfl rfl rfl rfl rfl rfl rfl rfl rfl rfl hst ?_
     rintro a L' ⟨rfl,rfl⟩
     refine VSt.go tb_ok false [] 200 rfl AllP.n ?_
     refine ⟨?_,trivial⟩
     dsimp only
     rw [e]
     refine Wk.vw (ps:=[(4,4),(3,3),(0,0),(1,1)]) ⟨rfl,rfl,(by repeat (first | exact wf_nil | refine wf_back rfl rfl rfl ?_)),_,rfl,((LImp.refl _))⟩
    ·rw [matK_all]
     refine VSt.go tb_ok false [] 200 rfl AllP.n ?_
     exact ⟨rfl,_,[(0,3)],.map 0,[(0,.mapA (some (2*lowN (edg (cnt l d bar)))) (mpM (matchM P)) [])],rfl,⟨rfl,rfl,wf_imp rfl rfl (AImp.refl _) wf_nil,_,rfl,⟨rfl,BImp.mapP (.inl (by rw [hcnt])) (fun _=>rfl),trivial⟩⟩,rfl,rfl⟩
end Go.Proofs.YtbieflpgjmgaiaaGreat
/- Walks: how many are false at least; what is known without some. -/
set_option maxRecDepth 100000
namespace Go.Proofs.YtbieflpgjmgaiaaGreat
open Kuhn
variable {r:Rm}
theorem half (n:Nat):(Int.ofNat (2*n)).tdiv 2=Int.ofNat n:=by
 show Int.ofNat (2*n / 2)=_
 rw [Nat.mul_div_cancel_left _ (by decide)]
set_option maxHeartbeats 4000000 in
theorem fewestW_ok {b:Bool} {l:List Opn} {d:Int} {bar:Nat→Bool} (w:Bool) (hw:w=false→bar=nb) (hz:Szs l) (hR:Reg l) :
  VC (sE r) [] 86 [kA w b l d] (kM w b l d bar) (fun a L=>a=nv (lowN (edg (cnt l d bar)))∧L=[]):=by
 have hm:=matching_ok (r:=r) (b:=b) (d:=d) w hw hz hR
 have hlow:=low_bd (hR.cnt d bar) (Vc.len hR rfl)
 refine VC.of (fn:=Tryz.f86) tb_ok (wk_ok rfl) (by kernel_rfl) rfl rfl ?_
 cases w
 case' false =>
  refine VSt.go tb_ok false [] 200 rfl AllP.n ?_
  refine VSt.cg [] (stc:=[]) rfl rfl rfl rfl rfl rfl rfl rfl rfl rfl rfl rfl hm ?_
 case' true =>
  refine VSt.go tb_ok false [] 200 rfl AllP.n ?_
  refine VSt.cg [(0,0),(1,1)] (stc:=[]) rfl rfl rfl rfl rfl rfl rfl rfl rfl rfl rfl rfl hm ?_
 all_goals
  rintro a L' ⟨rfl,rfl⟩
  refine VSt.go tb_ok false [6] 200 rfl AllP.n ?_
  refine VSt.go tb_ok false [] 200 rfl (AllP.c (by decide) (AllP.c (by rw [half];unfold inR;simp only [Int.ofNat_eq_natCast];omega) AllP.n)) ?_
  exact ⟨rfl,_,[],nv (lowN (edg (cnt l d bar))),[],rfl,⟨rfl,rfl,wf_imp rfl rfl (iv_nv (half _)) wf_nil,_,rfl,trivial⟩,rfl,rfl⟩
theorem fewest_ok {b:Bool} {l:List Opn} {d:Int} (hz:Szs l) (hR:Reg l):VP (sE r) 86 [.p (knP b l d)] (nv (lowN (edg (cnt l d nb)))):=⟨rfl,fewestW_ok false (fun _=>rfl) hz hR⟩
def eNb (fl:Bool) (X:List Nat):PV:=.lst 3 fl X.length (fN X)
def inX (X:List Nat):Nat→Bool:=fun k=>X.contains k
theorem take_natL {X:List Nat} {k:Nat} (h:k<X.length):X.take (k+1)=X.take k++[X.getD k 0]:=by
 rw [List.take_add_one,List.getElem?_eq_getElem h,List.getD_eq_getElem?_getD,List.getElem?_eq_getElem h];rfl
theorem bar_step {X:List Nat} {k:Nat} (h:k<X.length) (q:Nat):(bif Nat.beq (X.getD k 0) q then some (PV.bool true) else barP (inX (X.take k)) q)=barP (inX (X.take (k+1))) q:=by
 unfold barP inX
 rw [take_natL h]
 cases hb:Nat.beq (X.getD k 0) q with
 | true =>
  have:=beq_eq hb
  have e:(X.take k++[X.getD k 0]).contains q=true:=by rw [List.contains_iff_mem,←this];simp
  rw [e];rfl
 | false =>
  have hne:q≠X.getD k 0:=fun e=>by rw [e,Nat.beq_refl] at hb;cases hb
  have e:(X.take k++[X.getD k 0]).contains q=(X.take k).contains q:=by
   rw [Bool.eq_iff_iff,List.contains_iff_mem,List.contains_iff_mem,List.mem_append,List.mem_singleton]
   exact ⟨fun h=>h.resolve_right hne,.inl⟩
  rw [e];rfl
set_option maxHeartbeats 4000000 in
theorem bar_ok {b:Bool} {l:List Opn} {d:Int} {fl:Bool} {X:List Nat} (hX:X.length<1000000):VC (sE r) [] 88 [.p (knP b l d),.p (eNb fl X)] [] (fun a L=>a = .ref 0 0∧L=kown b l d (inX X)):=by
 refine VC.of (fn:=Tryz.f88) tb_ok (wk_ok rfl) (by kernel_rfl) rfl rfl ?_
 refine VSt.go tb_ok false [] 200 rfl AllP.n ?_
 refine VSt.viewC (Vw.kp [1,5,24] [(0,0),(1,1),(2,2)] rfl) ?_
 refine VSt.loop (α :=Unit) (fun _ F L=>F=[(1,.p (eNb fl X)),(5,.ref 1 0),(24,.ref 2 0)]∧L=[(0,.mapA (some 0) (fun _=>none) []),(1,.cells [.p (eOpns b l),iv d,.map 0] 98),(2,.itr none)]) (fun _=>0) () (by refine Wk.vw (ps:=[(0,0),(1,1),(2,2)]) ⟨rfl,rfl,(by repeat (first | exact wf_nil | refine wf_back rfl rfl rfl ?_)),_,rfl,((LImp.refl _))⟩) ⟨rfl,rfl⟩ ?_
 rintro _ F L ⟨rfl,rfl⟩
 refine VSt.go tb_ok false [] 200 rfl AllP.n ?_
 refine VSt.cond rfl (fun h=>absurd h (by decide)) (fun _=>?_)
 refine VSt.go tb_ok false [] 200 rfl AllP.n ?_
 refine VSt.viewC (Wk.vw (ps:=[(0,0),(1,1)]) (F0:=[(1,.p (eNb fl X)),(5,.ref 1 0),(34,.p (eNb fl X)),(35,nv X.length),(36,nv 0)]) (L0:=[(0,.mapA none (barP (inX (X.take 0))) []),(1,.cells [.p (eOpns b l),iv d,.map 0] 98)]) ⟨rfl,rfl,(by repeat (first | exact wf_nil | refine wf_back rfl rfl rfl ?_)),_,rfl,⟨rfl,BImp.mapP (.inr rfl) (fun _=>rfl),rfl,BImp.refl _,trivial⟩⟩) ?_
 refine VSt.rangeT tb_ok X.length (by omega) [5,34] (fun _=>[]) (fun k=>[(0,.mapA none (barP (inX (X.take k))) []),(1,.cells [.p (eOpns b l),iv d,.map 0] 98)]) (fun _=>True) rfl rfl rfl (fun _=>rfl) rfl rfl u0_nil (LImp.refl _) trivial (fun k hk _=>?_) (fun _=>?_)
 ·refine VSt.go tb_ok false [] 200 rfl (AllP.c ‹_› (AllP.c rfl AllP.n)) ?_
  refine ⟨?_,trivial⟩
  dsimp only
  refine Wk.vw (ps:=[(0,0),(1,1)]) ⟨rfl,rfl,(by repeat (first | exact wf_nil | refine wf_back rfl rfl rfl ?_)),_,rfl,(⟨rfl,BImp.mapP (.inr rfl) (bar_step hk),rfl,BImp.refl _,trivial⟩)⟩
 ·rw [List.take_length]
  refine VSt.go tb_ok false [] 200 rfl AllP.n ?_
  exact ⟨rfl,_,[(0,1),(1,0)],.ref 0 0,kown b l d (inX X),rfl,⟨rfl,rfl,wf_imp rfl rfl (AImp.refl _) wf_nil,_,rfl,LImp.refl _⟩,rfl,rfl⟩
end Go.Proofs.YtbieflpgjmgaiaaGreat
/- Walks: the library's Compact and Clone of ints. -/
set_option maxRecDepth 100000
namespace Go.Proofs.YtbieflpgjmgaiaaGreat
variable {r:Rm}
def setP (p:Nat→Int) (i:Nat) (x:Int):Nat→Int:=fun q=>if q=i then x else p q
theorem setP_ne {p:Nat→Int} {i:Nat} {x:Int} {q:Nat} (h:q≠i):setP p i x q=p q:=if_neg h
theorem setP_eq {p:Nat→Int} {i:Nat} {x:Int}:setP p i x i=x:=if_pos rfl
theorem AImp.slE {i sz m m' c c':Nat} (h:m=m') (h2:c=c'):AImp (.sl i sz 0 m c 0) (.sl i sz 0 m' c' 0):=by subst h h2;exact AImp.refl _
theorem BImp.arr' {n n' sz:Nat} {f g:Nat→List PV} {t:TypeId} (e:n=n') (h:∀ k,k<n→f k=g k):BImp (.arr n sz f t) (.arr n' sz g t):=e ▸ BImp.arr h
theorem set_cell (p:Nat→Int) (i:Nat) (x:Int) (q:Nat):(bif Nat.beq q (0+i) then ppaste [PV.int .i64 (p (0+i))] 0 [PV.int .i64 x] else [PV.int .i64 (p q)])=[PV.int .i64 (setP p i x q)]:=by
 rw [Nat.zero_add]
 by_cases h:q=i
 ·subst h;rw [Nat.beq_refl,setP_eq];rfl
 ·rw [beq_ne h,setP_ne h];rfl
theorem Vw.empAcc {E:Env} {d i sz sz' sz2:Nat} {f g:Nat→List PV} {t t':TypeId}:Vw E [] [(d,.sl i sz 0 0 0 2)] [(i,.arr 0 sz' f t)] [(d,.acc false i sz 0)] [(i,.acc 0 sz2 g t')]:=by
 intro T S Z j hS hF
 obtain ⟨b,hj,vs,gg,h1,h2,h3,h4⟩:=hS.blk i (.arr 0 sz' f t) (by simp [bk]) id
 have hr:=hS.unrom hj
 refine ⟨ZB Z b,fun _=>none,⟨fun c hc=>?_,fun k c hk=>(by cases hk),fun k k' c hk=>(by cases hk),fun k hk=>rfl,fun k vb hk=>?_,fun c q hc=>⟨(hS.rom c q hc).1,fun k hk=>(by cases hk)⟩⟩,fun x a ha=>?_,⟨Nat.le_refl _,fun _ _ _=>rfl,fun c hc=>.inl hc,fun c hc=>?_,fun k c hk=>(by cases hk),Nat.le_refl _,fun _ h _ _=>h⟩,fun k hk=>(by cases hk)⟩
 ·rcases hc with hc | rfl
  ·exact hS.zlt c hc
  ·exact (hS.jlt i _ hj).1
 ·simp only [bk] at hk
  cases hb:Nat.beq i k with
  | true=>rw [hb] at hk;cases hk;exact .inl rfl
  | false=>rw [hb] at hk;cases hk
 ·simp only [ak] at ha
  cases hb:Nat.beq d x with
  | true =>
   rw [hb] at ha
   cases ha
   obtain ⟨v,h5,h6⟩:=hF x (.sl i sz 0 0 0 2) (by simp only [ak];rw [hb];rfl)
   refine ⟨v,h5,?_⟩
   cases h6 with
   | sl h =>
    rw [hj] at h;cases h
    exact .accE (.inr rfl) ((rdc_none hr).trans h1) (by simp)
  | false=>rw [hb] at ha;cases ha
 ·rcases hc with hc | rfl
  ·exact .inl hc
  ·exact .inr (.inr ⟨i,hj⟩)
def ded (f:Nat→Int):Nat→List Int
 | 0=>[]
 | k+1=>bif decide (0<k)&&(f k==f (k - 1)) then ded f k else ded f k++[f k]
theorem ded_skip {f:Nat→Int} {k:Nat} (h0:0<k) (h:f k=f (k - 1)):ded f (k+1)=ded f k:=by
 rw [ded,decide_eq_true h0,h,beq_self_eq_true];rfl
theorem ded_add {f:Nat→Int} {k:Nat} (h:0<k→f k≠f (k - 1)):ded f (k+1)=ded f k++[f k]:=by
 rw [ded]
 by_cases h0:0<k
 ·rw [beq_false_of_ne (h h0),Bool.and_false];rfl
 ·rw [decide_eq_false h0];rfl
theorem ded_len (f:Nat→Int):∀ k,(ded f k).length≤k
 | 0=>Nat.le_refl _
 | k+1=>by
  have:=ded_len f k
  rw [ded]
  cases decide (0<k)&&(f k==f (k - 1)) with
  | true=>exact Nat.le_succ_of_le this
  | false=>simp only [cond_false,List.length_append,List.length_singleton];omega
theorem ded_pos (f:Nat→Int):∀ {k:Nat},0<k→0<(ded f k).length
 | k+1,_=>by
  by_cases h0:0<k
  ·have:=ded_pos f h0
   rw [ded]
   cases decide (0<k)&&(f k==f (k - 1)) with
   | true=>exact this
   | false=>simp only [cond_false,List.length_append,List.length_singleton];omega
  ·rw [ded_add (fun h=>absurd h h0)];simp
theorem ded_mem {f:Nat→Int} {x:Int}:∀ {k:Nat},x∈ded f k ↔ ∃ i,i<k∧f i=x
 | 0=>⟨fun h=>(by cases h),fun ⟨i,h,_⟩=>absurd h (Nat.not_lt_zero i)⟩
 | k+1=>by
  by_cases h:0<k∧f k=f (k - 1)
  ·rw [ded_skip h.1 h.2,ded_mem]
   refine ⟨fun ⟨i,h1,h2⟩=>⟨i,by omega,h2⟩,fun ⟨i,h1,h2⟩=>?_⟩
   by_cases e:i=k
   ·subst e;exact ⟨i - 1,by omega,by rw [←h.2];exact h2⟩
   ·exact ⟨i,by omega,h2⟩
  ·rw [ded_add (fun h0 e=>h ⟨h0,e⟩),List.mem_append,ded_mem,List.mem_singleton]
   refine ⟨fun h=>?_,fun ⟨i,h1,h2⟩=>?_⟩
   ·rcases h with ⟨i,h1,h2⟩ | h
    ·exact ⟨i,by omega,h2⟩
    ·exact ⟨k,by omega,h.symm⟩
   ·by_cases e:i=k
    ·subst e;exact .inr h2.symm
    ·exact .inl ⟨i,by omega,h2⟩
theorem ded_all {f:Nat→Int}:∀ {k:Nat},(∀ i,0<i→i<k→f i≠f (i - 1))→ded f k=(List.range k).map f
 | 0,_=>rfl
 | k+1,h=>by
  rw [ded_add (fun h0=>h k h0 (by omega)),ded_all (k:=k) (fun i h1 h2=>h i h1 (by omega)),List.range_succ,List.map_append];rfl
theorem map_at {f:Nat→Int} {n k:Nat} (h:k<n):((List.range n).map f).getD k 0=f k:=by
 rw [List.getD_eq_getElem?_getD,List.getElem?_map,List.getElem?_range h];rfl
structure CmpInv (f:Nat→Int) (n k j m:Nat) (g:Nat→Int):Prop where
 j1:1≤j
 jn:j≤n - k
 km:k≤m
 mj:m+1≤k+j
 rest:∀ i,m≤i→g i=f i
 len:(ded f (k+j)).length=m
 done:∀ i,i<m→g i=(ded f (k+j)).getD i 0
theorem Compact_ok {n:Nat} {f:Nat→Int} (hn0:0<n) (hn:n≤1000000):VC (sE r) [0] 83 [.sl 0 1 0 n n 0] [(0,.arr n 1 (fInts f) 3)]
  (fun a L=>∃ G,a = .sl 0 1 0 (ded f n).length n 0∧L=[(0,.arr n 1 G 3)]∧∀ k,k<(ded f n).length→G k=[.int .i64 ((ded f n).getD k 0)]):=by
 refine VC.of (fn:=Tryz.f83) tb_ok (wk_ok rfl) (by kernel_rfl) rfl rfl ?_
 have whole:(∀ i,0<i→i<n→f i≠f (i - 1))→(ded f n).length=n∧∀ k,k<n→fInts f k=[.int .i64 ((ded f n).getD k 0)]:=fun h=>by
  have e:=ded_all h
  refine ⟨by rw [e,List.length_map,List.length_range],fun k hk=>?_⟩
  rw [e,map_at hk];rfl
 refine VSt.go tb_ok false [] 200 rfl AllP.n ?_
 refine VSt.cond rfl (fun h1=>?_) (fun h1=>?_)
 ·have h1:n=1:=by have:=of_decide_eq_true h1;simp only [Int.ofNat_eq_natCast] at this;omega
  have hw:=whole (fun i hi h=>by omega)
  refine VSt.go tb_ok false [] 200 rfl AllP.n ?_
  exact ⟨rfl,_,[(0,0)],.sl 0 1 0 (ded f n).length n 0,_,rfl,⟨rfl,rfl,wf_imp rfl rfl (AImp.slE hw.1.symm rfl) wf_nil,_,rfl,LImp.refl _⟩,_,rfl,rfl,fun k hk=>hw.2 k (by omega)⟩
 have h1:2≤n:=by have:=of_decide_eq_false h1;simp only [Int.ofNat_eq_natCast] at this;omega
 refine VSt.go tb_ok false [] 200 rfl AllP.n ?_
 refine VSt.loop (α :=Nat) (fun k F L=>1≤k∧k≤n∧(∀ i,0<i→i<k→f i≠f (i - 1))∧F=[(0,.sl 0 1 0 n n 0),(3,nv k)]∧L=[(0,.arr n 1 (fInts f) 3)]) (fun k=>n - k) 1 (by (refine Vw.sub' (subK (by repeat (first | exact sk_nil | refine sk_cons rfl ?_))))) ⟨Nat.le_refl _,by omega,fun i h2 h3=>by omega,rfl,rfl⟩ ?_
 rintro k F L ⟨hk1,hkn,hd,rfl,rfl⟩
 refine VSt.go tb_ok false [] 200 rfl AllP.n ?_
 refine VSt.cond rfl (fun g1=>?_) (fun g1=>?_)
 ·have g1:k<n:=by have:=of_decide_eq_true g1;simp only [Int.ofNat_eq_natCast] at this;omega
  refine VSt.go tb_ok false [23] 200 rfl (AllP.c ‹_› (AllP.c rfl (AllP.c (by omega) (AllP.c rfl (AllP.c (by unfold inR;(try simp only [Int.ofNat_eq_natCast]);omega) AllP.n))))) ?_
  refine VSt.putD 22 (nv (k - 1)) rfl (iv_nv (by simp only [Int.ofNat_eq_natCast];omega)) ?_
  refine VSt.go tb_ok false [] 200 rfl (AllP.c (by omega) (AllP.c rfl (AllP.c (by omega) (AllP.c rfl AllP.n)))) ?_
  refine VSt.cond rfl (fun g2=>?_) (fun g2=>?_)
  ·have g2:f k=f (k - 1):=by
    have g2:(f (0+k)==f (0+(k - 1)))=true:=g2
    rw [Nat.zero_add,Nat.zero_add] at g2
    simpa using g2
   have e1:=ded_all hd
   have e2:=ded_skip (f:=f) hk1 g2
   refine VSt.go tb_ok false [] 200 rfl (AllP.c ‹_› (AllP.c (by omega) (AllP.c (by omega) (AllP.c rfl AllP.n)))) ?_
   refine VSt.loop (α :=Nat×Nat×(Nat→Int)) (fun x F L=>CmpInv f n k x.1 x.2.1 x.2.2∧F=[(0,.sl 0 1 0 n n 0),(3,nv x.2.1),(4,.sl 0 1 k (n - k) (n - k) 0),(5,nv x.1)]∧L=[(0,.arr n 1 (fInts x.2.2) 3)]) (fun x=>n - k - x.1) (1,k,f) (?_) ⟨(show CmpInv f n k 1 k f from ⟨Nat.le_refl _,by omega,Nat.le_refl _,by omega,fun _ _=>rfl,by rw [e2,e1,List.length_map,List.length_range],fun i hi=>by rw [e2,e1,map_at hi]⟩),rfl,rfl⟩ ?_
   ·exact Wk.vw (ps:=[(0,0)]) ⟨rfl,rfl,wf_back rfl rfl rfl (wf_back rfl rfl rfl (wf_imp rfl rfl (AImp.of_eq (by show AV.sl 0 1 (0+k) _ _ 0=_;rw [Nat.zero_add])) (wf_back rfl rfl rfl wf_nil))),_,rfl,LImp.refl _⟩
   intro x F L hx
   obtain ⟨hI,rfl,rfl⟩:=hx
   have i1:=hI.j1
   have i2:=hI.jn
   have i3:=hI.km
   have i4:=hI.mj
   have r1:=hI.rest (k+x.1) (by omega)
   have r2:=hI.rest (k+(x.1 - 1)) (by omega)
   have r3:k+(x.1 - 1)=k+x.1 - 1:=by omega
   refine VSt.go tb_ok false [] 200 rfl AllP.n ?_
   refine VSt.cond rfl (fun g3=>?_) (fun g3=>?_)
   ·have g3:x.1<n - k:=by have:=of_decide_eq_true g3;simp only [Int.ofNat_eq_natCast] at this;omega
    refine VSt.go tb_ok false [42] 200 rfl (AllP.c ‹_› (AllP.c rfl (AllP.c (by omega) (AllP.c rfl (AllP.c (by unfold inR;(try simp only [Int.ofNat_eq_natCast]);omega) AllP.n))))) ?_
    refine VSt.putD 41 (nv (x.1 - 1)) rfl (iv_nv (by simp only [Int.ofNat_eq_natCast];omega)) ?_
    refine VSt.go tb_ok false [] 200 rfl (AllP.c (by omega) (AllP.c rfl (AllP.c (by omega) (AllP.c rfl AllP.n)))) ?_
    refine VSt.cond rfl (fun g4=>?_) (fun g4=>?_)
    ·have g4:f (k+x.1)≠f (k+x.1 - 1):=by
      have g4:(!(x.2.2 (k+x.1)==x.2.2 (k+(x.1 - 1))))=true:=g4
      rw [r1,r2,r3] at g4
      simpa using g4
     have e3:ded f (k+(x.1+1))=ded f (k+x.1)++[f (k+x.1)]:=ded_add (k:=k+x.1) (fun _=>g4)
     refine VSt.go tb_ok false [] 200 rfl (AllP.c ‹_› (AllP.c rfl (AllP.c (by omega) (AllP.c rfl (AllP.c (by omega) (AllP.c rfl (AllP.c (by omega) (AllP.c rfl (AllP.c (Nat.le_refl _) (AllP.c (by unfold inR;(try simp only [Int.ofNat_eq_natCast]);omega) (AllP.c (by unfold inR;(try simp only [Int.ofNat_eq_natCast]);omega) AllP.n))))))))))) ?_
     refine ⟨(x.1+1,x.2.1+1,setP x.2.2 x.2.1 (f (k+x.1))),_,_,Wk.vw (ps:=[(0,0)]) (F0:=[(0,.sl 0 1 0 n n 0),(3,nv (x.2.1+1)),(4,.sl 0 1 k (n - k) (n - k) 0),(5,nv (x.1+1))]) (L0:=[(0,.arr n 1 (fInts (setP x.2.2 x.2.1 (f (k+x.1)))) 3)]) ⟨rfl,rfl,(by repeat (first | exact wf_nil | refine wf_back rfl rfl rfl ?_)),_,rfl,⟨rfl,BImp.arr' rfl (fun q _=>by rw [←r1];exact set_cell _ _ _ q),trivial⟩⟩,⟨(show CmpInv f n k (x.1+1) (x.2.1+1) (setP x.2.2 x.2.1 (f (k+x.1))) from ⟨by omega,by omega,by omega,by omega,fun i hi=>?_,?_,fun i hi=>?_⟩),rfl,rfl⟩,by show n - k - (x.1+1)<n - k - x.1;omega⟩
     ·have hi:x.2.1+1≤i:=hi
      show setP _ _ _ i=_
      rw [setP_ne (by omega)]
      exact hI.rest i (by omega)
     ·show (ded f (k+(x.1+1))).length=x.2.1+1
      rw [e3,List.length_append,hI.len];rfl
     ·have hi:i<x.2.1+1:=hi
      show setP x.2.2 x.2.1 _ i=(ded f (k+(x.1+1))).getD i 0
      rw [e3,List.getD_eq_getElem?_getD]
      by_cases e:i=x.2.1
      ·subst e
       rw [setP_eq,List.getElem?_append_right (by rw [hI.len];exact Nat.le_refl _),hI.len,Nat.sub_self];rfl
      ·rw [setP_ne e,List.getElem?_append_left (by rw [hI.len];omega),←List.getD_eq_getElem?_getD]
       exact hI.done i (by omega)
    ·have g4:f (k+x.1)=f (k+x.1 - 1):=by
      have g4:(!(x.2.2 (k+x.1)==x.2.2 (k+(x.1 - 1))))=false:=g4
      rw [r1,r2,r3] at g4
      simpa using g4
     have e3:ded f (k+(x.1+1))=ded f (k+x.1):=ded_skip (k:=k+x.1) (by omega) g4
     refine VSt.go tb_ok false [] 200 rfl (AllP.c (by unfold inR;(try simp only [Int.ofNat_eq_natCast]);omega) AllP.n) ?_
     refine ⟨(x.1+1,x.2.1,x.2.2),_,_,(by (refine Vw.sub' (subK (by repeat (first | exact sk_nil | refine sk_cons rfl ?_))))),⟨(show CmpInv f n k (x.1+1) x.2.1 x.2.2 from ⟨by omega,by omega,by omega,by omega,hI.rest,?_,?_⟩),rfl,rfl⟩,by show n - k - (x.1+1)<n - k - x.1;omega⟩
     ·show (ded f (k+(x.1+1))).length=x.2.1
      rw [e3];exact hI.len
     ·show ∀ i,i<x.2.1→x.2.2 i=(ded f (k+(x.1+1))).getD i 0
      rw [e3];exact hI.done
   ·have g3:x.1=n - k:=by have:=of_decide_eq_false g3;simp only [Int.ofNat_eq_natCast] at this;omega
    have e3:k+x.1=n:=by omega
    have h4:=hI.len
    rw [e3] at h4
    have h5:=hI.done
    rw [e3] at h5
    refine VSt.go tb_ok false [] 200 rfl (AllP.c (by omega) (AllP.c (by omega) (AllP.c (by omega) (AllP.c rfl (AllP.c (by omega) (AllP.c rfl (AllP.c rfl (AllP.c (by omega) (AllP.c (by omega) (AllP.c (by omega) (AllP.c rfl AllP.n))))))))))) ?_
    refine ⟨rfl,_,[(0,0)],.sl 0 1 0 (ded f n).length n 0,_,rfl,⟨rfl,rfl,wf_imp rfl rfl (AImp.slE h4.symm rfl) wf_nil,_,rfl,LImp.refl _⟩,_,rfl,rfl,fun q hq=>?_⟩
    have hq:q<x.2.1:=by omega
    have hb:Nat.ble (0+x.2.1) q=false:=by
     rw [Nat.zero_add,←Bool.not_eq_true]
     intro h
     have:=Nat.le_of_ble_eq_true h
     omega
    show (bif Nat.ble (0+x.2.1) q&&_ then _ else _)=_
    rw [hb]
    show fInts x.2.2 q=_
    unfold fInts
    rw [h5 q hq]
  ·have g2:f k≠f (k - 1):=by
    have g2:(f (0+k)==f (0+(k - 1)))=false:=g2
    rw [Nat.zero_add,Nat.zero_add] at g2
    simpa using g2
   refine VSt.go tb_ok false [] 200 rfl (AllP.c (by unfold inR;(try simp only [Int.ofNat_eq_natCast]);omega) AllP.n) ?_
   exact ⟨k+1,_,_,(by (refine Vw.sub' (subK (by repeat (first | exact sk_nil | refine sk_cons rfl ?_))))),⟨by omega,g1,fun i h2 h3=>by
    by_cases e:i=k
    ·subst e;exact g2
    ·exact hd i h2 (by omega),rfl,rfl⟩,by show n - (k+1)<n - k;omega⟩
 ·have g1:k=n:=by have:=of_decide_eq_false g1;simp only [Int.ofNat_eq_natCast] at this;omega
  subst g1
  have hw:=whole hd
  refine VSt.go tb_ok false [] 200 rfl AllP.n ?_
  exact ⟨rfl,_,[(0,0)],.sl 0 1 0 (ded f k).length k 0,_,rfl,⟨rfl,rfl,wf_imp rfl rfl (AImp.slE hw.1.symm rfl) wf_nil,_,rfl,LImp.refl _⟩,_,rfl,rfl,fun k hk=>hw.2 k (by omega)⟩
theorem cloneA_ok {b:Bool} {l:List Int} (hb:b=true→l=[]) (hn:l.length<1000000):VC (sE r) [] 109 [.p (eInts b l)] [] (fun a L=>a = .acc b 0 1 l.length∧L=[(0,.acc l.length 1 (fL l) 3)]):=by
 refine VC.of (fn:=Tryz.f109) tb_ok (wk_ok rfl) (by kernel_rfl) rfl rfl ?_
 refine VSt.go tb_ok false [] 200 rfl AllP.n ?_
 refine VSt.cond rfl (fun h=>?_) (fun h=>?_)
 ·refine VSt.viewC (Vw.adopt 0 1 (fL l) 3 rfl) ?_
  refine VSt.go tb_ok false [] 200 rfl AllP.n ?_
  have e:=hb h
  subst e;subst h
  exact ⟨rfl,_,[(0,0)],_,_,rfl,⟨rfl,rfl,wf_imp rfl rfl AImp.nilAcc wf_nil,_,rfl,LImp.refl _⟩,rfl,rfl⟩
 ·subst h
  by_cases h0:l.length=0
  ·have e:=List.length_eq_zero_iff.1 h0
   subst e
   refine VSt.go tb_ok true [2] 200 rfl (AllP.c ‹_› AllP.n) ?_
   refine VSt.viewO (Vw.trans (Wk.vw (ps:=[(0,0)]) (F0:=[(7,.sl 0 1 0 0 0 2)]) (L0:=[(0,.arr 0 1 (fun _=>[]) 3)]) ⟨rfl,rfl,(by repeat (first | exact wf_nil | refine wf_back rfl rfl rfl ?_)),_,rfl,LImp.refl _⟩) (Vw.empAcc (sz2:=1) (g:=fL []) (t':=3))) ?_
   refine VSt.go tb_ok false [] 200 rfl AllP.n ?_
   exact ⟨rfl,_,[(0,0)],_,_,rfl,⟨rfl,rfl,wf_imp rfl rfl (AImp.refl _) wf_nil,_,rfl,LImp.refl _⟩,rfl,rfl⟩
  ·refine VSt.go tb_ok false [] 200 rfl (AllP.c (by omega) (AllP.c (by omega) (AllP.c (fun _ _=>rfl) (AllP.c rfl (AllP.c rfl (AllP.c (by omega) (AllP.c (by omega) AllP.n))))))) ?_
   exact ⟨rfl,_,[(0,1)],_,[(0,.acc l.length 1 (fL l) 3)],rfl,⟨rfl,rfl,wf_imp rfl rfl (AImp.slAcc (by omega) (Nat.zero_add _) (Nat.zero_add _)) wf_nil,_,rfl,⟨rfl,BImp.arrAcc (Nat.zero_add _) fun q hq=>rfl,trivial⟩⟩,rfl,rfl⟩
end Go.Proofs.YtbieflpgjmgaiaaGreat
/- Walks: whether some reading has some as true, and some as false. -/
set_option maxRecDepth 100000
namespace Go.Proofs.YtbieflpgjmgaiaaGreat
open Kuhn
variable {r:Rm}
def setL (Z:List Int):List Int:=ded (fun k=>(srt Z.length fun k=>Z.getD k 0).getD k 0) Z.length
theorem setL_mem {Z:List Int} {x:Int}:x∈setL Z ↔ x∈Z:=by
 unfold setL
 rw [ded_mem]
 constructor
 ·rintro ⟨i,h1,h2⟩
  have h3:x∈srt Z.length fun k=>Z.getD k 0:=by
   rw [←h2,getD_get (by rw [srt_len];exact h1)]
   exact List.getElem_mem _
  obtain ⟨k,hk,e⟩:=srt_mem.1 h3
  rw [←e];exact getD_mem hk
 ·intro h
  obtain ⟨k,hk,e⟩:=mem_getD (d:=0) h
  obtain ⟨i,h1,h2⟩:=List.mem_iff_getElem.1 (srt_mem (n:=Z.length) (p:=fun k=>Z.getD k 0).2 ⟨k,hk,e⟩)
  rw [srt_len] at h1
  exact ⟨i,h1,by rw [getD_get (by rw [srt_len];exact h1)];exact h2⟩
theorem setL_len (Z:List Int):(setL Z).length≤Z.length:=ded_len _ _
theorem compact0_ok {fl:Bool} {f:Nat→List PV}:VP (sE r) 83 [.p (.lst 3 fl 0 f)] (.p (.lst 3 fl 0 f)):=by
 refine VP.of (fn:=Tryz.f83) tb_ok (wk_ok rfl) (by kernel_rfl) rfl rfl rfl ?_
 refine VSt.go tb_ok false [] 200 rfl AllP.n ?_
 refine VSt.cond rfl (fun _=>?_) (fun h=>absurd h (by decide))
 refine VSt.go tb_ok false [] 200 rfl AllP.n ?_
 exact EndsP.mk rfl rfl rfl rfl
def agO (l:List Opn) (d:Int) (s:Int):List Int:=agnL l d ((fnd l d s).getD default)
def addK (l:List Opn) (d:Int) (X Y:List Int) (k:Nat):List Int:=X++(Y.take k).flatMap (agO l d)
def addL (l:List Opn) (d:Int) (X Y:List Int):List Int:=X++Y.flatMap (agO l d)
theorem addK_all (l:List Opn) (d:Int) (X Y:List Int):addK l d X Y Y.length=addL l d X Y:=by
 unfold addK addL;rw [List.take_length]
theorem addK_succ {l:List Opn} {d:Int} {X Y:List Int} {k:Nat} (h:k<Y.length):addK l d X Y (k+1)=addK l d X Y k++agO l d (Y.getD k 0):=by
 unfold addK
 rw [List.take_add_one,List.getElem?_eq_getElem h,List.flatMap_append,List.append_assoc,getD_get h]
 simp
theorem agnL_len {l:List Opn} {d:Int} {o:Opn}:(agnL l d o).length≤l.length:=by
 unfold agnL
 rw [List.length_map]
 exact List.length_filter_le _ _
theorem addK_len {l:List Opn} {d:Int} {X Y:List Int} (hl:l.length≤60) (hX:X.length≤1000) (hY:Y.length≤1000) (k:Nat):(addK l d X Y k).length≤61000:=by
 unfold addK
 rw [List.length_append]
 have h1:((Y.take k).flatMap (agO l d)).length≤(Y.take k).length*60:=flat_le fun a _=>Nat.le_trans agnL_len hl
 have h2:(Y.take k).length≤Y.length:=List.length_take_le' ..
 have h3:(Y.take k).length*60≤1000*60:=Nat.mul_le_mul (by omega) (Nat.le_refl _)
 omega
theorem app_ints (l m:List Int) (q:Nat) (hq:q<l.length+m.length):(bif Nat.blt q l.length then fL l q else [PV.int .i64 (m.getD (q - l.length) 0)])=fL (l++m) q:=by
 unfold fL
 by_cases e:q<l.length
 ·rw [blt_t e]
  simp only [cond_true,List.getD_eq_getElem?_getD]
  rw [List.getElem?_append_left e]
 ·rw [blt_f e]
  simp only [cond_false,List.getD_eq_getElem?_getD]
  rw [List.getElem?_append_right (by omega)]
theorem fnd_sz {l:List Opn} {d s:Int} (hz:Szs l):Sz ((fnd l d s).getD default):=by
 cases h:fnd l d s with
 | none=>exact ⟨by decide,by decide⟩
 | some o=>exact hz.mem (List.mem_filter.1 (fnd_mem h).1).1
def natL (l:List Int):List Nat:=l.map Int.toNat
theorem natL_len (l:List Int):(natL l).length=l.length:=List.length_map ..
theorem natL_imp {fl:Bool} {l:List Int} (h:∀ x,x∈l→0≤x):AImp (.p (eInts fl l)) (.p (eNb fl (natL l))):=by
 show AImp (.p (.lst 3 fl l.length _)) (.p (.lst 3 fl (natL l).length _))
 rw [natL_len]
 refine AImp.lst fun k hk=>?_
 have h1:=h _ (getD_mem (d:=0) hk)
 have h2:(natL l).getD k 0=(l.getD k 0).toNat:=by
  unfold natL
  rw [getD_get (by rw [List.length_map];exact hk),List.getElem_map,getD_get hk]
 show _=fN (natL l) k
 unfold fN
 rw [h2]
 simp only [Int.ofNat_eq_natCast]
 rw [Int.toNat_of_nonneg h1]
noncomputable def canB (l:List Opn) (d:Int) (Y X:List Int):Bool:=!comI (setL (addL l d X Y)) Y&&(Int.ofNat (setL (addL l d X Y)).length+Int.ofNat (lowN (edg (cnt l d (inX (natL (setL (addL l d X Y)))))))==Int.ofNat (lowN (edg (cnt l d nb))))
theorem agO_pos {l:List Opn} {d s x:Int} (hR:Reg l) (h:x∈agO l d s):0≤x:=by
 unfold agO agnL at h
 obtain ⟨o,ho,rfl⟩:=List.mem_map.1 h
 have:=(hR.vc.ok o (List.mem_filter.1 ho).1).pos
 omega
theorem addL_pos {l:List Opn} {d:Int} {X Y:List Int} (hR:Reg l) (hX:∀ x,x∈X→0≤x) {x:Int} (h:x∈addL l d X Y):0≤x:=by
 unfold addL at h
 rcases List.mem_append.1 h with h | h
 ·exact hX x h
 ·obtain ⟨s,_,h⟩:=List.mem_flatMap.1 h
  exact agO_pos hR h
set_option maxHeartbeats 4000000 in
theorem can_ok {b:Bool} {l:List Opn} {d:Int} {fy fx:Bool} {Y X:List Int} (hz:Szs l) (hR:Reg l) (hfx:fx=true→X=[]) (hX:∀ x,x∈X→0≤x) (hXl:X.length≤1000) (hYl:Y.length≤1000):VP (sE r) 67 [.p (knP b l d),.p (eInts fy Y),.p (eInts fx X)] (bv (canB l d Y X)):=by
 have hl:=hR.len
 refine VP.of (fn:=Tryz.f67) tb_ok (wk_ok rfl) (by kernel_rfl) rfl rfl rfl ?_
 refine VSt.go tb_ok false [] 200 rfl AllP.n ?_
 refine VSt.cc [] rfl rfl rfl rfl rfl rfl rfl rfl rfl rfl rfl (cloneA_ok (b:=fx) (l:=X) hfx (by omega)) ?_
 rintro a L' ⟨rfl,rfl⟩
 refine VSt.go tb_ok false [] 200 rfl AllP.n ?_
 refine VSt.viewC (Vw.kp [0,1,7,14,15,16] [(0,0)] rfl) ?_
 refine VSt.rangeT tb_ok Y.length (by omega) [0,1,14] (fun k=>[(7,.acc fx 0 1 (addK l d X Y k).length)]) (fun k=>[(0,.acc (addK l d X Y k).length 1 (fL (addK l d X Y k)) 3)]) (fun _=>True) rfl rfl rfl (fun _=>rfl) rfl rfl (u0_cons rfl (AImp.acc (by unfold addK;simp) (fun _=>rfl)) u0_nil) ⟨rfl,BImp.acc (by unfold addK;simp) (fun x hx=>by unfold addK;simp),trivial⟩ trivial (fun k hk _=>?_) (fun _=>?_)
 ·have hlen:=addK_len (d:=d) hl hXl hYl k
  have hal:(agO l d (Y.getD k 0)).length≤60:=Nat.le_trans agnL_len hl
  have e:=addK_succ (l:=l) (d:=d) (X:=X) hk
  have hN:(addK l d X Y (k+1)).length=(addK l d X Y k).length+(agO l d (Y.getD k 0)).length:=by rw [e,List.length_append]
  refine VSt.go tb_ok false [] 200 rfl (AllP.c ‹_› (AllP.c rfl AllP.n)) ?_
  refine VSt.pc rfl rfl rfl rfl rfl rfl rfl rfl ((one_ok (b:=b) (d:=d) (Y.getD k 0) hz)) ?_
  refine VSt.go tb_ok false [10] 200 rfl AllP.n ?_
  refine VSt.aside (eOpn ((fnd l d (Y.getD k 0)).getD default)) tb_ok rfl rfl rfl rfl rfl rfl rfl rfl rfl rfl rfl ?_
  refine VSt.go tb_ok false [] 200 rfl AllP.n ?_
  refine VSt.pc rfl rfl rfl rfl rfl rfl rfl rfl ((against_ok (b:=b) (d:=d) hz (fnd_sz (d:=d) (s:=Y.getD k 0) hz))) ?_
  refine VSt.putO 29 (.p (eInts (agO l d (Y.getD k 0)).isEmpty (agO l d (Y.getD k 0)))) rfl (AImp.refl _) ?_
  by_cases h0:(agO l d (Y.getD k 0)).length=0
  ·refine VSt.go tb_ok true [2] 200 rfl (AllP.c ‹_› AllP.n) ?_
   refine ⟨?_,trivial⟩
   exact Wk.vw (ps:=[(0,0)]) ⟨rfl,rfl,(by repeat (first | exact wf_nil | refine wf_back rfl rfl rfl ?_ | refine wf_imp rfl rfl (AImp.acc (by omega) (fun _=>rfl)) ?_)),_,rfl,⟨rfl,BImp.acc (by omega) (fun x hx=>by rw [e,List.length_eq_zero_iff.1 h0,List.append_nil]),trivial⟩⟩
  ·refine VSt.go tb_ok false [] 200 rfl (AllP.c (by omega) (AllP.c (by omega) (AllP.c (fun _ _=>rfl) (AllP.c rfl (AllP.c rfl (AllP.c rfl AllP.n)))))) ?_
   refine ⟨?_,trivial⟩
   exact Wk.vw (ps:=[(0,1)]) ⟨rfl,rfl,(by repeat (first | exact wf_nil | refine wf_back rfl rfl rfl ?_ | refine wf_imp rfl rfl (AImp.acc hN.symm (fun h=>by omega)) ?_)),_,rfl,⟨rfl,BImp.acc hN.symm (fun x hx=>by rw [e];exact app_ints _ _ x hx),trivial⟩⟩
 ·rw [addK_all]
  have hlen:=addK_len (d:=d) hl hXl hYl Y.length
  rw [addK_all] at hlen
  refine VSt.go tb_ok false [] 200 rfl AllP.n ?_
  refine VSt.cc [(0,0)] rfl rfl rfl rfl rfl rfl rfl rfl rfl rfl rfl (VC.sortA rfl (hk_ok rfl) (p:=fun k=>(addL l d X Y).getD k 0) (by omega)) ?_
  rintro a L' ⟨rfl,rfl⟩
  refine VSt.go tb_ok false [] 200 rfl AllP.n ?_
  have hG0:∀ x,x∈setL (addL l d X Y)→0≤x:=fun x hx=>addL_pos hR hX (setL_mem.1 hx)
  have hGl:=setL_len (addL l d X Y)
  by_cases hZ:(addL l d X Y).length=0
  case' pos =>
   have hZ0:(addL l d X Y)=[]:=List.length_eq_zero_iff.1 hZ
   refine VSt.viewO (Vw.kp [0,1,34] [(0,0)] rfl) ?_
   refine VSt.viewO (Vw.freezeA 0 rfl rfl ⟨Nat.le_refl _,rfl⟩) ?_
   refine VSt.putO 34 (.p (.lst 3 fx 0 fun _=>[])) rfl (by rw [hZ];cases fx <;> exact AImp.lst fun k hk=>absurd hk (Nat.not_lt_zero k)) ?_
   refine VSt.pc rfl rfl rfl rfl rfl rfl rfl rfl ((compact0_ok (fl:=fx) (f:=fun _=>[]))) ?_
   refine VSt.putO 35 (.p (eInts (fx&&(addL l d X Y).isEmpty) (setL (addL l d X Y)))) rfl (by rw [hZ0];show AImp _ (.p (.lst 3 (fx&&true) 0 _));rw [Bool.and_true];exact AImp.lst fun k hk=>absurd hk (Nat.not_lt_zero k)) ?_
  case' neg =>
   have hpos:0<(addL l d X Y).length:=by omega
   have hE:(addL l d X Y).isEmpty=false:=by cases h:(addL l d X Y) <;> first | rfl | (rw [h] at hpos;exact absurd hpos (by decide))
   refine VSt.viewO (Wk.vw (ps:=[(0,0)]) (F0:=[(0,.p (knP b l d)),(1,.p (eInts fy Y)),(34,.sl 0 1 0 (addL l d X Y).length (addL l d X Y).length 0)]) (L0:=[(0,.arr (addL l d X Y).length 1 (fInts fun k=>(srt (addL l d X Y).length fun k=>(addL l d X Y).getD k 0).getD k 0) 3)]) ⟨rfl,rfl,(by repeat (first | exact wf_nil | refine wf_back rfl rfl rfl ?_ | refine wf_imp rfl rfl (AImp.accSl hpos rfl rfl) ?_)),_,rfl,⟨rfl,BImp.accArr hpos rfl (fun _ _=>rfl),trivial⟩⟩) ?_
   refine VSt.cc [(0,0)] rfl rfl rfl rfl rfl rfl rfl rfl rfl rfl rfl (Compact_ok hpos (by omega)) ?_
   rintro a L' ⟨G,rfl,rfl,hG⟩
   refine VSt.viewO (Vw.kp [0,1,35] [(0,0)] rfl) ?_
   refine VSt.viewO (Vw.freeze 0 rfl rfl ⟨by rw [Nat.zero_add];exact ded_len _ _,ded_len _ _,rfl⟩) ?_
   refine VSt.putO 35 (.p (eInts (fx&&(addL l d X Y).isEmpty) (setL (addL l d X Y)))) rfl (by show AImp _ (.p (.lst 3 (fx&&(addL l d X Y).isEmpty) (setL (addL l d X Y)).length _));rw [hE,Bool.and_false];exact AImp.lst fun k hk=>by rw [Nat.zero_add];exact hG k hk) ?_
  all_goals
   refine VSt.go tb_ok false [] 200 rfl AllP.n ?_
   refine VSt.pc rfl rfl rfl rfl rfl rfl rfl rfl ((common_ok (b:=(fx&&(addL l d X Y).isEmpty)) (b2:=fy) (l:=setL (addL l d X Y)) (m:=Y) (by omega) (by omega))) ?_
   refine VSt.go tb_ok false [] 200 rfl AllP.n ?_
   refine VSt.cond rfl (fun h1=>?_) (fun h1=>?_)
   ·have h1:comI (setL (addL l d X Y)) Y=true:=h1
    refine VSt.go tb_ok false [] 200 rfl AllP.n ?_
    refine EndsP.mk rfl rfl rfl ?_
    show bv _=bv _
    unfold canB;rw [h1];rfl
   ·have h1:comI (setL (addL l d X Y)) Y=false:=h1
    refine VSt.go tb_ok false [43] 200 rfl AllP.n ?_
    refine VSt.putO 42 (.p (eNb (fx&&(addL l d X Y).isEmpty) (natL (setL (addL l d X Y))))) rfl (natL_imp hG0) ?_
    refine VSt.cc [] rfl rfl rfl rfl rfl rfl rfl rfl rfl rfl rfl (bar_ok (b:=b) (l:=l) (d:=d) (fl:=(fx&&(addL l d X Y).isEmpty)) (X:=natL (setL (addL l d X Y))) (by rw [natL_len];omega)) ?_
    rintro a L' ⟨rfl,rfl⟩
    refine VSt.go tb_ok false [] 200 rfl AllP.n ?_
    have hb1:=low_bd (hR.cnt d (inX (natL (setL (addL l d X Y))))) (Vc.len hR rfl)
    refine VSt.cg [(0,0),(1,1)] (stc:=[]) rfl rfl rfl rfl rfl rfl rfl rfl rfl rfl rfl rfl (fewestW_ok (b:=b) (d:=d) (bar:=inX (natL (setL (addL l d X Y)))) true (fun h=>Bool.noConfusion h) hz hR) ?_
    rintro a L' ⟨rfl,rfl⟩
    refine VSt.go tb_ok false [] 200 rfl (AllP.c (by unfold inR;(try simp only [Int.ofNat_eq_natCast]);omega) AllP.n) ?_
    refine VSt.pc rfl rfl rfl rfl rfl rfl rfl rfl ((fewest_ok (b:=b) (d:=d) hz hR)) ?_
    refine VSt.go tb_ok false [] 200 rfl AllP.n ?_
    refine EndsP.mk rfl rfl rfl ?_
    show bv _=bv _
    unfold canB;rw [h1];rfl
end Go.Proofs.YtbieflpgjmgaiaaGreat
/- Walks: the reference's openings that count; what contradicts what; without one. -/
set_option maxRecDepth 100000
namespace Go.Proofs.YtbieflpgjmgaiaaGreat
variable {r:Rm}
def eLO (l:List Opn):PV:=eOpns l.isEmpty l
def fO (l:List Opn):Nat→List PV:=fun k=>eOpn (nth l k)
theorem app_opn (l:List Opn) (y:Opn) (ps:List PV) (hp:ps=eOpn y) (q:Nat) (hq:q<l.length+1):(bif Nat.blt q l.length then fO l q else (ps.drop ((q - l.length)*9)).take 9)=fO (l++[y]) q:=by
 unfold fO nth
 by_cases e:q<l.length
 ·rw [blt_t e]
  simp only [cond_true,List.getD_eq_getElem?_getD]
  rw [List.getElem?_append_left e]
 ·have:q=l.length:=by omega
  subst this
  rw [blt_f e,Nat.sub_self,hp]
  simp [eOpn]
theorem acc_eLO {l:List Opn} {n:Nat} (hn:n=l.length):(AV.p (.lst 45 (true&&Nat.beq n 0) n (fO l))) = .p (eLO l):=by
 subst hn
 cases l <;> rfl
def cpO (o:Opn):Opn:=⟨o.source,o.register,o.day,o.through,o.lawful,o.inn,false,o.out,false,o.known,o.until_⟩
theorem cpO_sz {o:Opn} (h:Sz o):Sz (cpO o):=⟨h.inn,h.out⟩
theorem cp_imp {l:List Int}:AImp (.p (.lst 3 false (0+l.length) fun k=>[.int .i64 (l.getD (0+k) 0)])) (.p (eInts false l)):=by
 show AImp _ (.p (.lst 3 false l.length _))
 rw [Nat.zero_add]
 exact AImp.lst fun k _=>by rw [Nat.zero_add]
theorem cp_nil {l:List Int} (h:l.length=0) {f:Nat→List PV}:AImp (.p (.lst 3 false 0 f)) (.p (eInts false l)):=by
 show AImp _ (.p (.lst 3 false l.length _))
 rw [h]
 exact AImp.lst fun k hk=>absurd hk (Nat.not_lt_zero k)
end Go.Proofs.YtbieflpgjmgaiaaGreat
/- Walks: whether an opening is true; whether a paper lies in the chest. -/
set_option maxRecDepth 100000
namespace Go.Proofs.YtbieflpgjmgaiaaGreat
open Kuhn
variable {r:Rm}
theorem ded_rise {f:Nat→Int}:∀ {n:Nat},(∀ i j,i≤j→j<n→f i≤f j)→(ded f n).Pairwise (· < ·)∧∀ x,x∈ded f n→x≤f (n - 1)
 | 0,_=>⟨.nil,fun x h=>nomatch h⟩
 | k+1,h=>by
  obtain ⟨h1,h2⟩:=ded_rise (n:=k) fun i j hij hj=>h i j hij (by omega)
  have hk:∀ x,x∈ded f k→x≤f k:=fun x hx=>Int.le_trans (h2 x hx) (h (k - 1) k (by omega) (by omega))
  by_cases e:0<k∧f k=f (k - 1)
  ·rw [ded_skip e.1 e.2]
   exact ⟨h1,hk⟩
  ·rw [ded_add (fun h0 he=>e ⟨h0,he⟩)]
   refine ⟨List.pairwise_append.2 ⟨h1,List.pairwise_singleton _ _,fun x hx y hy=>?_⟩,fun x hx=>?_⟩
   ·rw [List.mem_singleton.1 hy]
    have h3:=h2 x hx
    by_cases h0:0<k
    ·have h4:=h (k - 1) k (by omega) (by omega)
     have h5:f k≠f (k - 1):=fun he=>e ⟨h0,he⟩
     omega
    ·have:k=0:=by omega
     subst this
     cases hx
   ·rcases List.mem_append.1 hx with hx | hx
    ·exact hk x hx
    ·rw [List.mem_singleton.1 hx];exact Int.le_refl _
theorem setL_rise (Z:List Int):(setL Z).Pairwise (· < ·):=by
 refine (ded_rise fun i j hij hj=>?_).1
 have hs:=srt_sorted Z.length fun k=>Z.getD k 0
 rw [getD_get (by rw [srt_len];omega),getD_get (by rw [srt_len];omega)]
 by_cases e:i=j
 ·subst e;exact Int.le_refl _
 ·exact List.pairwise_iff_getElem.1 hs i j (by rw [srt_len];omega) (by rw [srt_len];omega) (by omega)
theorem natL_mem {l:List Int} (h:∀ x,x∈l→0≤x) {x:Nat}:x∈natL l ↔ Int.ofNat x∈l:=by
 unfold natL
 rw [List.mem_map]
 constructor
 ·rintro ⟨y,hy,rfl⟩
  have:=h y hy
  rw [Int.ofNat_eq_natCast,Int.toNat_of_nonneg this];exact hy
 ·exact fun hx=>⟨_,hx,rfl⟩
theorem natL_nodup {l:List Int} (h:∀ x,x∈l→0≤x) (hr:l.Pairwise (· < ·)):(natL l).Nodup:=by
 unfold natL
 rw [List.Nodup,List.pairwise_map]
 refine hr.imp_of_mem fun {a b} ha hb hab e=>?_
 have:=h a ha
 have:=h b hb
 omega
theorem nodup_len {A B:List Nat} (hA:A.Nodup) (hB:B.Nodup) (h:∀ x,x∈A ↔ x∈B):A.length=B.length :=
 Nat.le_antisymm (nodup_le hA fun x hx=>(h x).1 hx) (nodup_le hB fun x hx=>(h x).2 hx)
theorem cnt_inX (l:List Opn) (d:Int) (X:List Nat):cnt l d (inX X)=lessC (cnt l d nb) X:=by
 rw [cnt_nb]
 unfold cnt lessC inX
 rw [List.filter_filter]
 congr 1;funext o
 rw [Bool.and_comm]
theorem lessC_congr {c:List Opn} {X Y:List Nat} (h:∀ x,x∈X ↔ x∈Y):lessC c X=lessC c Y:=by
 unfold lessC
 congr 1;funext o
 congr 1
 rw [Bool.eq_iff_iff,List.contains_iff_mem,List.contains_iff_mem,h]
theorem can_iff {l:List Opn} {d:Int} {Y X:List Int} {N:List Nat} (hN:N.Nodup) (hp:∀ x,x∈addL l d X Y→0≤x) (hm:∀ x:Nat,x∈N ↔ Int.ofNat x∈addL l d X Y) (hc:∀ s,s∈Y→s ∉ addL l d X Y):canB l d Y X=true ↔ may (cnt l d nb) N:=by
 have h1:comI (setL (addL l d X Y)) Y=false:=by
  rw [←Bool.not_eq_true,comI_iff]
  rintro ⟨n,h1,h2⟩
  exact hc n h2 (setL_mem.1 h1)
 have hp2:∀ x,x∈setL (addL l d X Y)→0≤x:=fun x hx=>hp x (setL_mem.1 hx)
 have hmem:∀ x,x∈natL (setL (addL l d X Y)) ↔ x∈N:=fun x=>by rw [natL_mem hp2,setL_mem,hm]
 have hlen:=nodup_len (natL_nodup hp2 (setL_rise _)) hN hmem
 rw [natL_len] at hlen
 unfold canB may
 rw [h1,cnt_inX,lessC_congr hmem,hlen]
 simp only [Bool.not_false,Bool.true_and,beq_iff_eq,Int.ofNat_eq_natCast]
 omega
theorem fnd_of {l:List Opn} {d:Int} (hR:Reg l) {o:Opn} (ho:o∈cnt l d nb):fnd l d o.source=some o:=by
 cases h:fnd l d o.source with
 | none =>
  unfold fnd at h
  rw [List.find?_eq_none] at h
  have:=h o ho
  simp at this
 | some x =>
  obtain ⟨h1,h2⟩:=fnd_mem h
  rw [(hR.cnt d nb).inj h1 ho (by unfold src;rw [h2])]
theorem agO_near {l:List Opn} {d:Int} (hR:Reg l) {o:Opn} (ho:o∈cnt l d nb) (x:Nat):x∈near (cnt l d nb) o ↔ Int.ofNat x∈agO l d o.source:=by
 unfold agO
 rw [fnd_of hR ho]
 unfold near agnL
 rw [List.mem_map,List.mem_map]
 constructor
 ·rintro ⟨b,hb,rfl⟩
  obtain ⟨b1,b2⟩:=List.mem_filter.1 hb
  rw [cnt_nb] at b1
  obtain ⟨b3,b4⟩:=List.mem_filter.1 b1
  exact ⟨b,List.mem_filter.2 ⟨b3,by show (counts b d&&clB o b)=true;rw [b4,b2];rfl⟩,(hR.vc.ok b b3).src⟩
 ·rintro ⟨b,hb,e⟩
  obtain ⟨b1,b2⟩:=List.mem_filter.1 hb
  rw [Bool.and_eq_true] at b2
  refine ⟨b,List.mem_filter.2 ⟨by rw [cnt_nb];exact List.mem_filter.2 ⟨b1,b2.1⟩,b2.2⟩,?_⟩
  have:=(hR.vc.ok b b1).src
  rw [e] at this
  exact (Int.ofNat_inj.1 this).symm
theorem can_one {l:List Opn} {d:Int} (hR:Reg l) {o:Opn} (ho:o∈cnt l d nb):canB l d [o.source] []=true ↔ may (cnt l d nb) (near (cnt l d nb) o):=by
 have hV:=hR.cnt d nb
 have e:addL l d [] [o.source]=agO l d o.source:=by unfold addL;simp
 refine can_iff (near_nodup hV o) (fun x hx=>by rw [e] at hx;exact agO_pos hR hx) (fun x=>by rw [e];exact agO_near hR ho x) fun s hs hx=>?_
 rw [e,List.mem_singleton.1 hs] at hx
 have h1:=(hV.ok o ho).src
 rw [h1] at hx
 exact near_not hV ho ((agO_near hR ho _).2 (by rw [h1];exact hx))
theorem can_no {l:List Opn} {d:Int} {X:List Int} (hp:∀ x,x∈X→0≤x) (hN:(natL X).Nodup):canB l d [] X=true ↔ may (cnt l d nb) (natL X):=by
 have e:addL l d X []=X:=by unfold addL;simp
 exact can_iff hN (fun x hx=>by rw [e] at hx;exact hp x hx) (fun x=>by rw [e];exact natL_mem hp) fun s hs=>nomatch hs
theorem lit1 {s:Int}:AImp (.p (.lst 3 false 1 fun k=>List.take 1 (List.drop (k*1) [PV.int .i64 s]))) (.p (eInts false [s])):=AImp.lst fun k hk=>bs_ints [s] k hk
theorem nilI:AImp (.p (.lst 0 true 0 fun _=>[])) (.p (eInts true [])):=AImp.nil
theorem truth_ok {b:Bool} {l:List Opn} {d:Int} {o:Opn} (hz:Szs l) (hR:Reg l) (ho:o∈cnt l d nb):VP (sE r) 55 [.p (knP b l d),iv o.source] (iv (truI (cnt l d nb) o)):=by
 have hV:=hR.cnt d nb
 have hpos:=(hV.ok o ho).pos
 refine VP.of (fn:=Tryz.f55) tb_ok (wk_ok rfl) (by kernel_rfl) rfl rfl rfl ?_
 refine VSt.go tb_ok false [] 200 rfl AllP.n ?_
 refine VSt.pc rfl rfl rfl rfl rfl rfl rfl rfl ((VP.imp (can_ok (b:=b) (d:=d) (fy:=false) (fx:=true) (Y:=[o.source]) (X:=[]) hz hR (fun _=>rfl) (fun x h=>nomatch h) (show 0≤1000 by decide) (show 1≤1000 by decide)) ⟨AImp.refl _,lit1,nilI,trivial⟩)) ?_
 refine VSt.go tb_ok false [] 200 rfl AllP.n ?_
 refine VSt.pc rfl rfl rfl rfl rfl rfl rfl rfl ((VP.imp (can_ok (b:=b) (d:=d) (fy:=true) (fx:=false) (Y:=[]) (X:=[o.source]) hz hR (fun h=>Bool.noConfusion h) (fun x h=>by rw [List.mem_singleton.1 h];omega) (show 1≤1000 by decide) (show 0≤1000 by decide)) ⟨AImp.refl _,nilI,lit1,trivial⟩)) ?_
 refine VSt.go tb_ok false [] 200 rfl AllP.n ?_
 refine VSt.pc rfl rfl rfl rfl rfl rfl rfl rfl ((answer_ok (canB l d [o.source] []) (canB l d [] [o.source]))) ?_
 refine VSt.go tb_ok false [] 200 rfl AllP.n ?_
 refine EndsP.mk rfl rfl rfl ?_
 show iv (ansI _ _)=iv _
 rw [truI_eq hV (Vc.len hR rfl) ho (can_one hR ho) (can_no (X:=[o.source]) (fun x h=>by rw [List.mem_singleton.1 h];omega) (by simp [natL]))]
 rfl
end Go.Proofs.YtbieflpgjmgaiaaGreat
/- Walks: the program's True, Inside, Sealed. -/
set_option maxRecDepth 100000
namespace Go.Proofs.YtbieflpgjmgaiaaGreat
variable {r:Rm}
theorem ask_cases (l:List Opn) (d:Int):(Reg l∧wth d 0 100000=true∧askE l d=0)∨(askE l d≠0∧∀ b,lookE l [d]=askE l d∧lookP b l [d] = .nilp):=by
 by_cases hR:Reg l
 ·cases hd:wth d 0 100000 with
  | true=>exact .inl ⟨hR,rfl,askE_yes hR hd⟩
  | false =>
   refine .inr ⟨by rw [askE_day hR hd];decide,fun b=>?_⟩
   have h:=look_day (ds:=[d]) b hR (k:=0) (show 0<1 by decide) hd
   rw [askE_day hR hd];exact h
 ·refine .inr ⟨by rw [askE_no hR];decide,fun b=>?_⟩
  have h:=look_no (ds:=[d]) b hR
  rw [askE_no hR];exact h
theorem look1 {b:Bool} {l:List Opn} {d:Int} (hR:Reg l) (hd:wth d 0 100000=true):lookE l [d]=0∧lookP b l [d]=knP b l d :=
 look_yes (ds:=[d]) b hR fun k hk=>by
  have:k=0:=by simp only [List.length_singleton] at hk;omega
  subst this;exact hd
open Classical in
noncomputable def truV (l:List Opn) (d s:Int):Int:=if askE l d=0 then (match fnd l d s with | some o=>truI (cnt l d nb) o | none=>0) else 0
open Classical in
noncomputable def truE (l:List Opn) (d s:Int):Int:=if askE l d=0 then (if (fnd l d s).isSome then 0 else 62) else askE l d
theorem True_ok {b:Bool} {l:List Opn} {s d:Int} (hz:SzsW l):VP (sE r) 11 [.p (eOpns b l),iv s,iv d] (.tup [iv (truV l d s),iv (truE l d s)]):=by
 have hlk:=look_ok (r:=r) (b:=b) (ds:=[d]) hz (show 0<1 by decide) (show 1<1000000 by decide)
 refine VP.of (fn:=Tryz.f11) tb_ok (wk_ok rfl) (by kernel_rfl) rfl rfl rfl ?_
 refine VSt.go tb_ok false [] 200 rfl AllP.n ?_
 rcases ask_cases l d with ⟨hR,hd,hE⟩ | ⟨hE,hl⟩
 ·have hz:=hR.szs
  rw [(look1 (b:=b) hR hd).1,(look1 (b:=b) hR hd).2] at hlk
  refine VSt.pc rfl rfl rfl rfl rfl rfl rfl rfl ((VP.imp hlk ⟨AImp.refl _,lit1,trivial⟩)) ?_
  refine VSt.go tb_ok false [] 200 rfl AllP.n ?_
  refine VSt.cond rfl (fun h=>absurd h (by decide)) (fun _=>?_)
  refine VSt.go tb_ok false [] 200 rfl AllP.n ?_
  refine VSt.pc rfl rfl rfl rfl rfl rfl rfl rfl ((one_ok (b:=b) (d:=d) s hz)) ?_
  refine VSt.go tb_ok false [10] 200 rfl AllP.n ?_
  refine VSt.aside (eOpn ((fnd l d s).getD default)) tb_ok rfl rfl rfl rfl rfl rfl rfl rfl rfl rfl rfl ?_
  cases hf:fnd l d s with
  | none =>
   refine VSt.go tb_ok false [] 200 rfl AllP.n ?_
   refine VSt.cond rfl (fun _=>?_) (fun h=>absurd h (by decide))
   refine VSt.go tb_ok false [] 200 rfl AllP.n ?_
   refine EndsP.mk rfl rfl rfl ?_
   show AV.tup _=AV.tup _
   unfold truV truE
   rw [if_pos hE,if_pos hE,hf];rfl
  | some o =>
   have ho:=fnd_mem hf
   refine VSt.go tb_ok false [] 200 rfl AllP.n ?_
   refine VSt.cond rfl (fun h=>Bool.noConfusion (show false=true from h)) (fun _=>?_)
   refine VSt.go tb_ok false [] 200 rfl AllP.n ?_
   have ht:=truth_ok (r:=r) (b:=b) hz hR ho.1
   rw [ho.2] at ht
   refine VSt.pc rfl rfl rfl rfl rfl rfl rfl rfl (ht) ?_
   refine VSt.go tb_ok false [] 200 rfl AllP.n ?_
   refine EndsP.mk rfl rfl rfl ?_
   show AV.tup _=AV.tup _
   unfold truV truE
   rw [if_pos hE,if_pos hE,hf];rfl
 ·rw [(hl b).1,(hl b).2] at hlk
  refine VSt.pc rfl rfl rfl rfl rfl rfl rfl rfl ((VP.imp hlk ⟨AImp.refl _,lit1,trivial⟩)) ?_
  refine VSt.go tb_ok false [] 200 rfl AllP.n ?_
  refine VSt.cond rfl (fun _=>?_) (fun h=>?_)
  ·refine VSt.go tb_ok false [] 200 rfl AllP.n ?_
   refine EndsP.mk rfl rfl rfl ?_
   show AV.tup _=AV.tup _
   unfold truV truE
   rw [if_neg hE,if_neg hE];rfl
  ·have h:(!(askE l d==0))=false:=h
   exact absurd (by simpa using h) hE
end Go.Proofs.YtbieflpgjmgaiaaGreat
