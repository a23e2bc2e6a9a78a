/- The program's ChestLists returns true for all openings, numbers and days, valid or not, without an exception and without changing its arguments: a part of the proof. -/
import Derived.Test.YtbieflpgjmgaiaaGreatVr
set_option linter.all false
/- Walks: the reference's matching. -/
set_option maxRecDepth 100000
namespace Go.Proofs.YtbieflpgjmgaiaaGreat
open Kuhn
variable {r:Rm}
def adjI (c:List Opn) (i:Nat):List Nat:=(List.range c.length).filter fun k=>isP (nth c i) (nth c k)
def remI (c:List Opn) (i k:Nat):List Nat:=((List.range c.length).drop k).filter fun q=>isP (nth c i) (nth c q)
theorem remI_t {c:List Opn} {i k:Nat} (hk:k<c.length) (h:isP (nth c i) (nth c k)=true):remI c i k=k::remI c i (k+1):=by
 unfold remI
 rw [drop_cons (by rw [List.length_range];exact hk),getD_get (by rw [List.length_range];exact hk),List.getElem_range,List.filter_cons_of_pos (p:=fun q=>isP (nth c i) (nth c q)) h]
theorem remI_f {c:List Opn} {i k:Nat} (hk:k<c.length) (h:isP (nth c i) (nth c k)=false):remI c i k=remI c i (k+1):=by
 unfold remI
 rw [drop_cons (by rw [List.length_range];exact hk),getD_get (by rw [List.length_range];exact hk),List.getElem_range,List.filter_cons_of_neg (p:=fun q=>isP (nth c i) (nth c q)) (by rw [h];decide)]
theorem adjI_lt {c:List Opn} {i x:Nat} (h:x∈adjI c i):x<c.length:=List.mem_range.1 (List.mem_filter.1 h).1
theorem runM_skip {adj:Nat→List Nat} {k:Nat} {p:Nat→Bool} (h:∀ f,p f=false→adj f=[]):∀ (l:List Nat) (μ : MS Nat),l.foldl (stepM adj (k+1)) μ = (l.filter p).foldl (stepM adj (k+1)) μ
 | [],μ =>rfl
 | f::l,μ =>by
  cases hp:p f with
  | true=>rw [List.filter_cons_of_pos hp];exact runM_skip h l _
  | false =>
   rw [List.filter_cons_of_neg (by rw [hp];decide),List.foldl_cons]
   have e:stepM adj (k+1) μ f = μ :=by
    unfold stepM tryK
    rw [h f hp];rfl
   rw [e];exact runM_skip h l μ
def matchI (c:List Opn):MS Nat:=runM (adjI c) 61 (List.range c.length)
theorem nth_inj {c:List Opn} (h:Vc c) {i j:Nat} (hi:i<c.length) (hj:j<c.length) (e:src (nth c i)=src (nth c j)):i=j:=by
 have key:∀ i j,i<j→j<c.length→src (nth c i)≠src (nth c j):=fun i j hij hj e=>by
  have h1:=List.pairwise_iff_getElem.1 h.rise i j (by omega) hj hij
  have e1:(nth c i).source=(nth c j).source:=(h.ok (nth c i) (getD_mem (by omega))).src.trans ((congrArg Int.ofNat e).trans (h.ok (nth c j) (getD_mem hj)).src.symm)
  have e2:(nth c i).source=c[i].source:=congrArg _ (getD_get (by omega))
  have e3:(nth c j).source=c[j].source:=congrArg _ (getD_get hj)
  omega
 by_cases h1:i<j
 ·exact absurd e (key i j h1 hj)
 ·by_cases h2:j<i
  ·exact absurd e.symm (key j i h2 hi)
  ·omega
theorem low_i {c:List Opn} (h:Vc c) (hn:c.length≤60):Low (edg c) (matchI c).n:=by
 have hAdj:∀ p x,x∈adjI c p→x∈(List.range c.length).filter fun k=>(nth c k).register==2:=fun p x hx=>by
  obtain ⟨h1,h2⟩:=List.mem_filter.1 hx
  exact List.mem_filter.2 ⟨h1,by simpa using (isP_regs h2).2.1⟩
 have e:matchI c=runM (adjI c) 61 ((List.range c.length).filter fun k=>(nth c k).register==1):=by
  unfold matchI runM
  refine runM_skip (k:=60) (fun f hf=>?_) _ _
  unfold adjI
  rw [List.filter_eq_nil_iff]
  intro x _ hx
  have:=(isP_regs hx).1
  rw [this] at hf;cases hf
 have hI:=runM_ok (k:=61) (F:=(List.range c.length).filter fun k=>(nth c k).register==1) hAdj (List.nodup_range.filter _) (by
  have:=List.length_filter_le (fun k=>(nth c k).register==2) (List.range c.length)
  rw [List.length_range] at this
  omega) (List.nodup_range.filter fun k=>(nth c k).register==1)
 rw [←e] at hI
 have edge:∀ f x,edg c f x→∃ i,i<c.length∧∃ k,k<c.length∧(nth c i).register=1∧k∈adjI c i∧src (nth c i)=f∧src (nth c k)=x:=fun f x he=>by
  obtain ⟨a,ha,b,hb,h1,rfl,rfl⟩:=edg_iff.1 he
  obtain ⟨i,hi,rfl⟩:=mem_getD (d:=default) ha
  obtain ⟨k,hk,rfl⟩:=mem_getD (d:=default) hb
  exact ⟨i,hi,k,hk,(isP_regs h1).1,List.mem_filter.2 ⟨List.mem_range.2 hk,h1⟩,rfl,rfl⟩
 constructor
 ·obtain ⟨C,c1,c2,_⟩:=some_cover hAdj hI
  refine ⟨C.map fun i=>src (nth c i),fun f x he=>?_,by rw [List.length_map];exact c2⟩
  obtain ⟨i,hi,k,hk,hr,ha,rfl,rfl⟩:=edge f x he
  rcases c1 i (List.mem_filter.2 ⟨List.mem_range.2 hi,by simpa using hr⟩) k ha with h1 | h1
  ·exact .inl (List.mem_map.2 ⟨i,h1,rfl⟩)
  ·exact .inr (List.mem_map.2 ⟨k,h1,rfl⟩)
 ·intro D hD
  have h1:=no_less (D:=(List.range c.length).filter fun i=>D.contains (src (nth c i))) (List.nodup_range.filter _) (fun g s hg hs e=>by
   have h1:(nth c g).register=1:=by simpa using (List.mem_filter.1 hg).2
   have h2:(nth c s).register=2:=by simpa using (List.mem_filter.1 hs).2
   rw [e] at h1;omega) hI (fun f hf x hx=>by
   obtain ⟨f1,_⟩:=List.mem_filter.1 hf
   obtain ⟨x1,x2⟩:=List.mem_filter.1 hx
   have he:edg c (src (nth c f)) (src (nth c x)):=edg_iff.2 ⟨_,getD_mem (List.mem_range.1 f1),_,getD_mem (List.mem_range.1 x1),x2,rfl,rfl⟩
   rcases hD _ _ he with h2 | h2
   ·exact .inl (List.mem_filter.2 ⟨f1,by simpa using h2⟩)
   ·exact .inr (List.mem_filter.2 ⟨x1,by simpa using h2⟩))
  refine Nat.le_trans h1 ?_
  have h2:=nodup_le (L:=((List.range c.length).filter fun i=>D.contains (src (nth c i))).map fun i=>src (nth c i)) (D:=D) (nodup_map (List.nodup_range.filter _) fun a b ha hb e=>nth_inj h (List.mem_range.1 (List.mem_filter.1 ha).1) (List.mem_range.1 (List.mem_filter.1 hb).1) e) fun x hx=>by
   obtain ⟨i,hi,rfl⟩:=List.mem_map.1 hx
   simpa using (List.mem_filter.1 hi).2
  rwa [List.length_map] at h2
def parI (σ : KS Nat) (k:Nat):Int:=match σ.of k with
 | some g=>Int.ofNat g
 | none=> -1
def memI (n:Nat) (σ : KS Nat):VS:=[(0,.arr n 1 (fun k=>[.int .i64 (parI σ k)]) 3),(1,.arr n 1 (fun k=>[.bool (σ.seen k)]) 4)]
theorem see_cell {n:Nat} {σ : KS Nat} {k:Nat} (q:Nat) (_:q<n):(bif Nat.beq q (0+k) then ppaste [PV.bool (σ.seen (0+k))] 0 [PV.bool true] else [PV.bool (σ.seen q)])=[PV.bool ((σ.see k).seen q)]:=by
 rw [Nat.zero_add]
 by_cases h:q=k
 ·subst h
  rw [Nat.beq_refl,show (σ.see q).seen q=true from see_seen.2 (.inl rfl)];rfl
 ·rw [beq_ne h,show (σ.see k).seen q = σ.seen q from upd_ne h];rfl
theorem pair_cell {n:Nat} {σ : KS Nat} {i k:Nat} (q:Nat) (_:q<n):(bif Nat.beq q (0+k) then ppaste [PV.int .i64 (parI σ (0+k))] 0 [PV.int .i64 (Int.ofNat i)] else [PV.int .i64 (parI σ q)])=[PV.int .i64 (parI (σ.pair i k) q)]:=by
 rw [Nat.zero_add]
 by_cases h:q=k
 ·subst h
  have:(σ.pair i q).of q=some i:=upd_eq
  unfold parI
  rw [Nat.beq_refl,this];rfl
 ·have:(σ.pair i k).of q = σ.of q:=upd_ne h
  unfold parI
  rw [beq_ne h,this];rfl
set_option maxHeartbeats 4000000 in
theorem partner_ok {b:Bool} {c:List Opn} (hz:Szs c) (hn:c.length≤60):∀ (k i:Nat) (σ : KS Nat),i<c.length→WS (fun f=>f<c.length) (fun x=>x<c.length) σ → left (List.range c.length) σ < k →
  VC (sE r) [0,1] 121 [.p (eOpns b c),nv i,.sl 0 1 0 c.length c.length 1,.sl 1 1 0 c.length c.length 1] (memI c.length σ) (fun a L=>a=bv (tryK (adjI c) k i σ).1∧L=memI c.length (tryK (adjI c) k i σ).2)
 | 0,_,_,_,_,h=>absurd h (Nat.not_lt_zero _)
 | k+1,i,σ,hi,hW,hk=>by
  have ih:=fun g τ h1 h2 h3=>partner_ok (b:=b) hz hn k g τ h1 h2 h3
  have hzi:=hz.each i hi
  refine VC.of (fn:=Tryz.f121) tb_ok (wk_ok rfl) (by kernel_rfl) rfl rfl ?_
  refine VSt.go tb_ok false [] 200 rfl AllP.n ?_
  refine VSt.loop (α :=Nat) (fun j F L=>F=[(0,.p (eOpns b c)),(1,nv i),(2,.sl 0 1 0 c.length c.length 1),(3,.sl 1 1 0 c.length c.length 1),(9,nv j)]∧∃ σj,(j≤c.length∧loopK (tryK (adjI c) k) i (adjI c i) σ = loopK (tryK (adjI c) k) i (remI c i j) σj∧WS (fun f=>f<c.length) (fun x=>x<c.length) σj∧left (List.range c.length) σj≤left (List.range c.length) σ)∧L=memI c.length σj) (fun j=>c.length - j) 0 (by refine Wk.vw (ps:=[(0,0),(1,1)]) ⟨rfl,rfl,(by repeat (first | exact wf_nil | refine wf_back rfl rfl rfl ?_)),_,rfl,((LImp.refl _))⟩) ⟨rfl,σ,⟨Nat.zero_le _,rfl,hW,Nat.le_refl _⟩,rfl⟩ ?_
  rintro j F L ⟨rfl,σj,⟨hj0,e1,hWj,hlj⟩,rfl⟩
  refine VSt.go tb_ok false [] 200 rfl AllP.n ?_
  refine VSt.cond rfl (fun h=>?_) (fun h=>?_)
  ·have hj:=nlt h
   have hjB:j∈List.range c.length:=List.mem_range.2 hj
   refine VSt.go tb_ok false [] 200 rfl (AllP.c ‹_› (AllP.c rfl (AllP.c ‹_› (AllP.c rfl AllP.n)))) ?_
   refine VSt.pcD rfl rfl rfl rfl rfl rfl rfl rfl ((rclash_ok (a:=nth c i) (b:=nth c j) hzi (hz.each j hj))) ?_
   refine VSt.go tb_ok false [] 200 rfl AllP.n ?_
   refine VSt.splitD 27 rfl (fun h1=>?_) (fun h1=>?_)
   ·have h1:isP (nth c i) (nth c j)=false:=by
     have h1:(!(isP (nth c i) (nth c j)&&true))=true:=h1
     simpa using h1
    refine VSt.go tb_ok false [] 200 rfl (AllP.c (by unfold inR;(try simp only [Int.ofNat_eq_natCast]);omega) AllP.n) ?_
    rw [remI_f hj h1] at e1
    exact ⟨j+1,_,_,by refine Wk.vw (ps:=[(0,0),(1,1)]) ⟨rfl,rfl,(by repeat (first | exact wf_nil | refine wf_back rfl rfl rfl ?_)),_,rfl,((LImp.refl _))⟩,⟨rfl,σj,⟨hj,e1,hWj,hlj⟩,rfl⟩,by omega⟩
   have h1:isP (nth c i) (nth c j)=true:=by
    have h1:(!(isP (nth c i) (nth c j)&&true))=false:=h1
    simpa using h1
   rw [remI_t hj h1] at e1
   refine VSt.go tb_ok false [] 200 rfl (AllP.c ‹_› (AllP.c rfl (AllP.c (by omega) (AllP.c rfl AllP.n)))) ?_
   refine VSt.cond rfl (fun h2=>?_) (fun h2=>?_)
   ·have h2 : σj.seen j=true:=by
     have h2 : σj.seen (0+j)=true:=h2
     rwa [Nat.zero_add] at h2
    refine VSt.go tb_ok false [] 200 rfl (AllP.c (by unfold inR;(try simp only [Int.ofNat_eq_natCast]);omega) AllP.n) ?_
    rw [loopK_seen h2] at e1
    exact ⟨j+1,_,_,by refine Wk.vw (ps:=[(0,0),(1,1)]) ⟨rfl,rfl,(by repeat (first | exact wf_nil | refine wf_back rfl rfl rfl ?_)),_,rfl,((LImp.refl _))⟩,⟨rfl,σj,⟨hj,e1,hWj,hlj⟩,rfl⟩,by omega⟩
   have h2 : σj.seen j=false:=by
    have h2 : σj.seen (0+j)=false:=h2
    rwa [Nat.zero_add] at h2
   have hWs:=hWj.see j
   have hls:=left_see h2 hjB
   refine VSt.go tb_ok false [] 200 rfl (AllP.c ‹_› (AllP.c rfl (AllP.c (by omega) (AllP.c rfl (AllP.c (Nat.le_refl _) (AllP.c ‹_› (AllP.c rfl (AllP.c (by omega) (AllP.c rfl AllP.n))))))))) ?_
   refine VSt.viewC (Wk.vw (ps:=[(0,0),(1,1)]) (F0:=[(0,.p (eOpns b c)),(1,nv i),(2,.sl 0 1 0 c.length c.length 1),(3,.sl 1 1 0 c.length c.length 1),(9,nv j),(10,bv (decide (parI σj (0+j)<0))),(42,bv (!decide (parI σj (0+j)<0)))]) (L0:=memI c.length (σj.see j)) ⟨rfl,rfl,(by repeat (first | exact wf_nil | refine wf_back rfl rfl rfl ?_)),_,rfl,⟨rfl,BImp.refl _,rfl,BImp.arr' rfl see_cell,trivial⟩⟩) ?_
   refine VSt.cond rfl (fun h3=>?_) (fun h3=>?_)
   ·have h3:=nt h3
    rw [Nat.zero_add] at h3
    have hog:∃ g,σj.of j=some g:=by
     cases ho : σj.of j with
     | some g=>exact ⟨g,rfl⟩
     | none =>
      have:parI σj j = -1:=by unfold parI;rw [ho]
      rw [this] at h3;exact absurd h3 (by decide)
    refine Exists.elim hog fun g ho=>?_
    have hg:=(hWj.of_ _ _ ho).2
    have hp:parI (σj.see j) (0+j)=Int.ofNat g:=by
     rw [Nat.zero_add]
     show (match σj.of j with | some g=>Int.ofNat g | none=> -1)=_
     rw [ho]
    have hcall:=ih g (σj.see j) hg hWs (by omega)
    refine VSt.go tb_ok false [50] 200 rfl (AllP.c ‹_› (AllP.c rfl (AllP.c (by omega) (AllP.c rfl AllP.n)))) ?_
    refine VSt.putO 47 (nv g) rfl (iv_nv hp) ?_
    refine VSt.cc [(0,0),(1,1)] rfl rfl rfl rfl rfl rfl rfl rfl rfl rfl rfl hcall ?_
    rintro a L' ⟨rfl,rfl⟩
    have hW2:=tryK_ws (Fs:=fun f=>f<c.length) (Sec:=fun x=>x<c.length) (adj:=adjI c) (fun p hp x hx=>adjI_lt hx) k g (σj.see j) hg hWs
    have hl2:=left_mono (τ :=(tryK (adjI c) k g (σj.see j)).2) (fun t ht=>tryK_grow k g (σj.see j) t ht) (List.range c.length)
    refine VSt.go tb_ok false [] 200 rfl AllP.n ?_
    refine VSt.cond rfl (fun h5=>?_) (fun h5=>?_)
    ·have h5:(tryK (adjI c) k g (σj.see j)).1=true:=h5
     rw [loopK_win h2 ho h5] at e1
     have e2:tryK (adjI c) (k+1) i σ = (true,(tryK (adjI c) k g (σj.see j)).2.pair i j):=e1
     refine VSt.go tb_ok false [] 200 rfl (AllP.c ‹_› (AllP.c rfl (AllP.c (by omega) (AllP.c rfl (AllP.c (Nat.le_refl _) AllP.n))))) ?_
     refine ⟨rfl,_,[(0,0),(1,1)],bv true,memI c.length ((tryK (adjI c) k g (σj.see j)).2.pair i j),rfl,⟨rfl,rfl,wf_imp rfl rfl (AImp.refl _) wf_nil,_,rfl,⟨rfl,BImp.arr' rfl pair_cell,rfl,BImp.refl _,trivial⟩⟩,?_,?_⟩
     ·rw [e2]
     ·rw [e2]
    ·have h5:(tryK (adjI c) k g (σj.see j)).1=false:=h5
     rw [loopK_lose h2 ho h5] at e1
     refine VSt.go tb_ok false [] 200 rfl (AllP.c (by unfold inR;(try simp only [Int.ofNat_eq_natCast]);omega) AllP.n) ?_
     exact ⟨j+1,_,_,by refine Wk.vw (ps:=[(0,0),(1,1)]) ⟨rfl,rfl,(by repeat (first | exact wf_nil | refine wf_back rfl rfl rfl ?_)),_,rfl,((LImp.refl _))⟩,⟨rfl,(tryK (adjI c) k g (σj.see j)).2,⟨hj,e1,hW2,by omega⟩,rfl⟩,by omega⟩
   ·have h3:=nf h3
    have h3':=h3
    rw [Nat.zero_add] at h3
    have ho : σj.of j=none:=by
     cases ho : σj.of j with
     | none=>rfl
     | some g =>
      have:parI σj j=Int.ofNat g:=by unfold parI;rw [ho]
      rw [this] at h3
      have:=of_decide_eq_true h3
      simp only [Int.ofNat_eq_natCast] at this
      omega
    rw [loopK_free h2 ho] at e1
    have e2:tryK (adjI c) (k+1) i σ = (true,(σj.see j).pair i j):=e1
    refine VSt.putC 10 (bv true) rfl (AImp.of_eq (by rw [h3'])) ?_
    refine VSt.go tb_ok false [] 200 rfl AllP.n ?_
    refine VSt.cond rfl (fun _=>?_) (fun h=>absurd h (by decide))
    refine VSt.go tb_ok false [] 200 rfl (AllP.c ‹_› (AllP.c rfl (AllP.c (by omega) (AllP.c rfl (AllP.c (Nat.le_refl _) AllP.n))))) ?_
    refine ⟨rfl,_,[(0,0),(1,1)],bv true,memI c.length ((σj.see j).pair i j),rfl,⟨rfl,rfl,wf_imp rfl rfl (AImp.refl _) wf_nil,_,rfl,⟨rfl,BImp.arr' rfl pair_cell,rfl,BImp.refl _,trivial⟩⟩,?_,?_⟩
    ·rw [e2]
    ·rw [e2]
  ·have hj:j=c.length:=by have:=nge h;omega
   subst hj
   have e2:tryK (adjI c) (k+1) i σ = (false,σj):=by
    have:remI c i c.length=[]:=by unfold remI;rw [List.drop_of_length_le (by rw [List.length_range];exact Nat.le_refl _)];rfl
    rw [this] at e1;exact e1
   refine VSt.go tb_ok false [] 200 rfl AllP.n ?_
   refine ⟨rfl,_,[(0,0),(1,1)],bv false,memI c.length σj,rfl,⟨rfl,rfl,wf_imp rfl rfl (AImp.refl _) wf_nil,_,rfl,LImp.refl _⟩,?_,?_⟩
   ·rw [e2]
   ·rw [e2]
def matIk (c:List Opn) (k:Nat):MS Nat:=((List.range c.length).take k).foldl (stepM (adjI c) 61) ⟨fun _=>none,fun _=>none,0⟩
theorem matIk_all (c:List Opn):matIk c c.length=matchI c:=by
 unfold matIk matchI runM
 rw [List.take_of_length_le (by rw [List.length_range];exact Nat.le_refl _)]
theorem matIk_step (c:List Opn) {k:Nat} (h:k<c.length):matIk c (k+1)=stepM (adjI c) 61 (matIk c k) k:=by
 unfold matIk
 rw [List.take_add_one,List.getElem?_eq_getElem (by rw [List.length_range];exact h),List.foldl_append]
 simp
theorem matIk_ws (c:List Opn):∀ k,k≤c.length→WS (fun f=>f<c.length) (fun x=>x<c.length) (ks0 (matIk c k))
 | 0,_=>⟨fun s g h=>(nomatch h),fun x y h=>(nomatch h)⟩
 | k+1,h=>by
  have ih:=matIk_ws c k (by omega)
  have h1:=tryK_ws (Fs:=fun f=>f<c.length) (Sec:=fun x=>x<c.length) (adj:=adjI c) (fun p hp x hx=>adjI_lt hx) 61 k (ks0 (matIk c k)) (by omega) ih
  obtain ⟨e1,e2,_⟩:=stepM_eq (adjI c) 61 k (matIk c k)
  rw [matIk_step c (by omega)]
  exact ⟨fun s g hs=>h1.of_ s g (by rw [←e1];exact hs),fun x y hx=>h1.to_ x y (by rw [←e2];exact hx)⟩
theorem parI_congr {σ τ : KS Nat} (h : σ.of = τ.of) (k:Nat):parI σ k=parI τ k:=by
 unfold parI;rw [h]
theorem matIk_n (c:List Opn):∀ k,k≤c.length→(matIk c k).n≤k
 | 0,_=>Nat.le_refl _
 | k+1,h=>by
  have ih:=matIk_n c k (by omega)
  obtain ⟨_,_,e3⟩:=stepM_eq (adjI c) 61 k (matIk c k)
  rw [matIk_step c (by omega),e3]
  cases (tryK (adjI c) 61 k (ks0 (matIk c k))).1 with
  | true=>exact Nat.succ_le_succ ih
  | false=>exact Nat.le_succ_of_le ih
theorem neg_cell {k:Nat} (q:Nat):(bif Nat.beq q (0+k) then ppaste [PV.int .i64 (bif Nat.blt (0+k) k then -1 else 0)] 0 [PV.int .i64 (-1)] else [PV.int .i64 (bif Nat.blt q k then -1 else 0)])=[PV.int .i64 (bif Nat.blt q (k+1) then -1 else 0)]:=by
 rw [Nat.zero_add]
 by_cases h:q=k
 ·subst h
  rw [Nat.beq_refl,blt_t (Nat.lt_succ_self q)];rfl
 ·rw [beq_ne h]
  by_cases h2:q<k
  ·rw [blt_t h2,blt_t (show q<k+1 by omega)];rfl
  ·rw [blt_f h2,blt_f (show ¬ q<k+1 by omega)];rfl
set_option maxHeartbeats 4000000 in
theorem rfewest_ok {b:Bool} {c:List Opn} (hz:Szs c) (hV:Vc c) (hn:c.length≤60):VP (sE r) 87 [.p (eOpns b c)] (nv (lowN (edg c))):=by
 have hfin:(matchI c).n=lowN (edg c):=(lowN_eq (low_i hV hn)).symm
 refine VP.of (fn:=Tryz.f87) tb_ok (wk_ok rfl) (by kernel_rfl) rfl rfl rfl ?_
 refine VSt.go tb_ok false [] 200 rfl (AllP.c (by omega) (AllP.c (by omega) AllP.n)) ?_
 refine VSt.loopT (ti:=4) c.length [0,3] (fun _=>[]) (fun k=>[(0,.arr c.length 1 (fun q=>[.int .i64 (bif Nat.blt q k then -1 else 0)]) 3)]) (fun _=>True) rfl rfl u0_nil ⟨rfl,BImp.arr' rfl (fun q _=>rfl),trivial⟩ trivial (fun k hk _=>?_)
 refine VSt.go tb_ok false [] 200 rfl AllP.n ?_
 refine VSt.cond rfl (fun h=>?_) (fun h=>?_)
 ·have h:=nlt h
  refine VSt.go tb_ok false [] 200 rfl (AllP.c ‹_› (AllP.c rfl (AllP.c (by omega) (AllP.c rfl (AllP.c (Nat.le_refl _) (AllP.c (by unfold inR;(try simp only [Int.ofNat_eq_natCast]);omega) AllP.n)))))) ?_
  refine ⟨h,?_,trivial⟩
  refine Wk.vw (ps:=[(0,0)]) ⟨rfl,rfl,(by repeat (first | exact wf_nil | refine wf_back rfl rfl rfl ?_)),_,rfl,(⟨rfl,BImp.arr' rfl (fun q _=>neg_cell q),trivial⟩)⟩
 ·have h:k=c.length:=by have:=nge h;omega
  subst h
  refine VSt.go tb_ok false [] 200 rfl AllP.n ?_
  refine VSt.loopT (ti:=6) c.length [0,3] (fun k=>[(5,nv (matIk c k).n)]) (fun k=>[(0,.arr c.length 1 (fun q=>[.int .i64 (parI (ks0 (matIk c k)) q)]) 3)]) (fun _=>True) rfl rfl (u0_cons rfl (AImp.refl _) u0_nil) ⟨rfl,BImp.arr' rfl (fun q hq=>by rw [blt_t hq];rfl),trivial⟩ trivial (fun k hk _=>?_)
  have hkn:=matIk_n c k hk
  refine VSt.go tb_ok false [] 200 rfl AllP.n ?_
  refine VSt.cond rfl (fun h=>?_) (fun h=>?_)
  ·have h:=nlt h
   have hW:=matIk_ws c k hk
   have hleft:left (List.range c.length) (ks0 (matIk c k))<61:=by
    have h1:left (List.range c.length) (ks0 (matIk c k))≤(List.range c.length).length:=List.length_filter_le _ _
    rw [List.length_range] at h1
    omega
   obtain ⟨e1,e2,e3⟩:=stepM_eq (adjI c) 61 k (matIk c k)
   rw [←matIk_step c h] at e1 e2 e3
   have hpt:=partner_ok (r:=r) (b:=b) hz hn 61 k (ks0 (matIk c k)) h hW hleft
   refine VSt.go tb_ok false [31] 200 rfl (AllP.c ‹_› (AllP.c (by omega) AllP.n)) ?_
   refine VSt.viewO (Wk.vw (ps:=[(0,0),(1,1)]) (F0:=[(0,.p (eOpns b c)),(3,.sl 0 1 0 c.length c.length 1),(5,nv (matIk c k).n),(6,nv k),(25,.p (eOpns b c)),(26,nv k),(27,.sl 0 1 0 c.length c.length 1),(30,.sl 1 1 0 c.length c.length 1)]) (L0:=memI c.length (ks0 (matIk c k))) ⟨rfl,rfl,(by repeat (first | exact wf_nil | refine wf_back rfl rfl rfl ?_)),_,rfl,⟨rfl,BImp.refl _,rfl,BImp.arr' rfl (fun q _=>rfl),trivial⟩⟩) ?_
   refine VSt.cc [(0,0),(1,1)] rfl rfl rfl rfl rfl rfl rfl rfl rfl rfl rfl hpt ?_
   rintro a L' ⟨rfl,rfl⟩
   refine VSt.go tb_ok false [] 200 rfl AllP.n ?_
   refine VSt.cond rfl (fun h1=>?_) (fun h1=>?_)
   ·have h1:(tryK (adjI c) 61 k (ks0 (matIk c k))).1=true:=h1
    have e4:(matIk c (k+1)).n=(matIk c k).n+1:=by rw [e3,h1];rfl
    refine VSt.go tb_ok false [] 200 rfl (AllP.c (by unfold inR;(try simp only [Int.ofNat_eq_natCast]);omega) (AllP.c (by unfold inR;(try simp only [Int.ofNat_eq_natCast]);omega) AllP.n)) ?_
    refine ⟨h,?_,trivial⟩
    dsimp only
    rw [e4]
    refine Wk.vw (ps:=[(0,0)]) ⟨rfl,rfl,(by repeat (first | exact wf_nil | refine wf_back rfl rfl rfl ?_)),_,rfl,(⟨rfl,BImp.arr' rfl (fun q _=>by rw [parI_congr (τ :=ks0 (matIk c (k+1))) e1.symm]),trivial⟩)⟩
   ·have h1:(tryK (adjI c) 61 k (ks0 (matIk c k))).1=false:=h1
    have e4:(matIk c (k+1)).n=(matIk c k).n:=by rw [e3,h1];rfl
    refine VSt.go tb_ok false [] 200 rfl (AllP.c (by unfold inR;(try simp only [Int.ofNat_eq_natCast]);omega) AllP.n) ?_
    refine ⟨h,?_,trivial⟩
    dsimp only
    rw [e4]
    refine Wk.vw (ps:=[(0,0)]) ⟨rfl,rfl,(by repeat (first | exact wf_nil | refine wf_back rfl rfl rfl ?_)),_,rfl,(⟨rfl,BImp.arr' rfl (fun q _=>by rw [parI_congr (τ :=ks0 (matIk c (k+1))) e1.symm]),trivial⟩)⟩
  ·have h:k=c.length:=by have:=nge h;omega
   subst h
   rw [matIk_all,hfin]
   refine VSt.go tb_ok false [] 200 rfl AllP.n ?_
   exact EndsP.mk rfl rfl rfl rfl
end Go.Proofs.YtbieflpgjmgaiaaGreat
/- Walks: the reference's openings without some; whether some may be false. -/
set_option maxRecDepth 100000
namespace Go.Proofs.YtbieflpgjmgaiaaGreat
open Kuhn
variable {r:Rm}
def lessI (c:List Opn) (s:Int):List Opn:=(c.filter fun o=>!(o.source==s)).map cpO
theorem cpO_ok {o:Opn} (h:OkO o):OkO (cpO o):=⟨h.source,h.register,h.day,h.lawful,h.inn,h.out,h.com,h.known,h.until_⟩
theorem Vc.less {c:List Opn} (h:Vc c) (s:Int):Vc (lessI c s):=by
 refine ⟨fun o ho=>?_,?_⟩
 ·obtain ⟨x,hx,rfl⟩:=List.mem_map.1 ho
  exact cpO_ok (h.ok x (List.mem_filter.1 hx).1)
 ·unfold lessI
  rw [List.pairwise_map]
  exact h.rise.filter _
theorem lessI_len {c:List Opn} {s:Int}:(lessI c s).length≤c.length:=by
 unfold lessI
 rw [List.length_map]
 exact List.length_filter_le _ _
theorem Szs.of {c:List Opn} (hn:c.length<1000000) (h:∀ o,o∈c→Sz o):Szs c:=⟨hn,fun k hk=>h _ (getD_mem hk)⟩
theorem Szs.less {c:List Opn} (h:Szs c) (s:Int):Szs (lessI c s):=Szs.of (Nat.lt_of_le_of_lt lessI_len h.len) fun o ho=>by
 obtain ⟨x,hx,rfl⟩:=List.mem_map.1 ho
 exact cpO_sz (h.mem (List.mem_filter.1 hx).1)
theorem edg_lessI {c:List Opn} (h:Vc c) (x:Nat):edg (lessI c (Int.ofNat x))=less (edg c) [x]:=by
 have key:∀ o,o∈c→(((!(o.source==Int.ofNat x))=true) ↔ src o ∉ [x]):=fun o ho=>by
  have:=(h.ok o ho).src
  rw [this,List.mem_singleton]
  simp only [Bool.not_eq_true',beq_eq_false_iff_ne,Int.ofNat_eq_natCast]
  omega
 funext f y
 refine propext ?_
 unfold Kuhn.less
 rw [edg_iff,edg_iff]
 constructor
 ·rintro ⟨a,ha,b,hb,h1,rfl,rfl⟩
  obtain ⟨a',ha',rfl⟩:=List.mem_map.1 ha
  obtain ⟨b',hb',rfl⟩:=List.mem_map.1 hb
  obtain ⟨a1,a2⟩:=List.mem_filter.1 ha'
  obtain ⟨b1,b2⟩:=List.mem_filter.1 hb'
  exact ⟨⟨a',a1,b',b1,h1,rfl,rfl⟩,(key a' a1).1 a2,(key b' b1).1 b2⟩
 ·rintro ⟨⟨a,ha,b,hb,h1,rfl,rfl⟩,h2,h3⟩
  exact ⟨cpO a,List.mem_map.2 ⟨a,List.mem_filter.2 ⟨ha,(key a ha).2 h2⟩,rfl⟩,cpO b,List.mem_map.2 ⟨b,List.mem_filter.2 ⟨hb,(key b hb).2 h3⟩,rfl⟩,h1,rfl,rfl⟩
def lessF (c:List Opn) (S:List Int):List Opn:=S.foldl lessI c
theorem lessF_facts:∀ (S:List Int) {c:List Opn},Vc c→Szs c→Vc (lessF c S)∧Szs (lessF c S)∧(lessF c S).length≤c.length
 | [],_,h,hz=>⟨h,hz,Nat.le_refl _⟩
 | s::S,c,h,hz=>by
  obtain ⟨h1,h2,h3⟩:=lessF_facts S (h.less s) (hz.less s)
  exact ⟨h1,h2,Nat.le_trans h3 lessI_len⟩
theorem edg_lessF:∀ (X:List Nat) {c:List Opn},Vc c→edg (lessF c (X.map Int.ofNat))=less (edg c) X
 | [],c,_=>by
  funext f y
  refine propext ⟨fun h=>⟨h,(fun h=>(nomatch h)),(fun h=>(nomatch h))⟩,fun h=>h.1⟩
 | x::X,c,h=>by
  show edg (lessF (lessI c (Int.ofNat x)) (X.map Int.ofNat))=_
  rw [edg_lessF X (h.less _),edg_lessI h]
  funext f y
  refine propext ?_
  unfold Kuhn.less
  simp only [List.mem_cons,List.not_mem_nil,or_false,not_or]
  exact ⟨fun ⟨⟨h1,h2,h3⟩,h4,h5⟩=>⟨h1,⟨h2,h4⟩,h3,h5⟩,fun ⟨h1,⟨h2,h4⟩,h3,h5⟩=>⟨⟨h1,h2,h3⟩,h4,h5⟩⟩
theorem low_lessF {c:List Opn} (h:Vc c) (X:List Nat):lowN (edg (lessF c (X.map Int.ofNat)))=lowN (edg (lessC c X)):=by
 rw [edg_lessF X h,edg_less]
set_option maxHeartbeats 4000000 in
theorem rless_ok {b:Bool} {c:List Opn} {s:Int} (hz:Szs c):VP (sE r) 81 [.p (eOpns b c),iv s] (.p (eLO (lessI c s))):=by
 have hn:=hz.len
 refine VP.of (fn:=Tryz.f81) tb_ok (wk_ok rfl) (by kernel_rfl) rfl rfl rfl ?_
 refine VSt.go tb_ok false [] 200 rfl AllP.n ?_
 refine VSt.viewC (Vw.adopt 0 9 (fO []) 45 rfl) ?_
 refine VSt.loopT (ti:=6) c.length [0,1] (fun k=>[(5,.acc true 0 9 (preL c (fun o=>!(o.source==s)) cpO k).length)]) (fun k=>[(0,.acc (preL c (fun o=>!(o.source==s)) cpO k).length 9 (fO (preL c (fun o=>!(o.source==s)) cpO k)) 45)]) (fun _=>True) rfl rfl (u0_cons rfl AImp.nilAcc u0_nil) (LImp.refl _) trivial (fun k hk _=>?_)
 have hlen:=preL_len (l:=c) (p:=fun o=>!(o.source==s)) (f:=cpO) (k:=k)
 refine VSt.go tb_ok false [] 200 rfl AllP.n ?_
 refine VSt.cond rfl (fun h=>?_) (fun h=>?_)
 ·have h:=nlt h
  refine VSt.go tb_ok false [] 200 rfl (AllP.c ‹_› (AllP.c rfl AllP.n)) ?_
  refine VSt.cond rfl (fun h2=>?_) (fun h2=>?_)
  ·have e:=preL_t (p:=fun o=>!(o.source==s)) (f:=cpO) h h2
   have hN:=congrArg List.length e
   rw [List.length_append,List.length_singleton] at hN
   refine VSt.go tb_ok false [] 200 rfl (AllP.c ‹_› (AllP.c rfl AllP.n)) ?_
   refine VSt.pc rfl rfl rfl rfl rfl rfl rfl rfl ((copyOpn_ok (o:=nth c k) (hz.each k h))) ?_
   refine VSt.go tb_ok false [] 200 rfl (AllP.c (by omega) (AllP.c (by omega) (AllP.c (fun q hq=>match q,hq with | 0,_=>rfl) (AllP.c rfl (AllP.c rfl (AllP.c rfl (AllP.c (by unfold inR;(try simp only [Int.ofNat_eq_natCast]);omega) AllP.n))))))) ?_
   refine ⟨h,?_,trivial⟩
   exact Wk.vw (ps:=[(0,1)]) ⟨rfl,rfl,(by repeat (first | exact wf_nil | refine wf_back rfl rfl rfl ?_ | refine wf_imp rfl rfl (AImp.acc hN.symm (fun _=>rfl)) ?_)),_,rfl,⟨rfl,BImp.acc hN.symm (fun x hx=>by rw [e];exact app_opn _ _ _ rfl x hx),trivial⟩⟩
  ·refine VSt.go tb_ok false [] 200 rfl (AllP.c (by unfold inR;(try simp only [Int.ofNat_eq_natCast]);omega) AllP.n) ?_
   refine ⟨h,?_,trivial⟩
   dsimp only
   rw [preL_f (p:=fun o=>!(o.source==s)) (f:=cpO) h h2]
   refine Wk.vw (ps:=[(0,0)]) ⟨rfl,rfl,(by repeat (first | exact wf_nil | refine wf_back rfl rfl rfl ?_)),_,rfl,((LImp.refl _))⟩
 ·have h:k=c.length:=by have:=nge h;omega
  subst h
  rw [preL_all]
  refine VSt.go tb_ok false [28] 200 rfl AllP.n ?_
  refine VSt.viewO (Vw.kp [5] [(0,0)] rfl) ?_
  refine VSt.viewO (Vw.freezeA 0 rfl rfl ⟨Nat.le_refl _,rfl⟩) ?_
  refine VSt.go tb_ok false [] 200 rfl AllP.n ?_
  refine EndsP.mk rfl rfl rfl ?_
  exact acc_eLO rfl
theorem lessF_step {c:List Opn} {S:List Int} {k:Nat} (h:k<S.length):lessF c (S.take (k+1))=lessI (lessF c (S.take k)) (S.getD k 0):=by
 unfold lessF
 rw [List.take_add_one,List.getElem?_eq_getElem h,List.foldl_append,getD_get h];rfl
def leftB (b:Bool) (c:List Opn) (S:List Int):Nat→Bool
 | 0=>b
 | k+1=>(lessF c (S.take (k+1))).isEmpty
noncomputable def mayB (c:List Opn) (S:List Int):Bool:=Int.ofNat (lowN (edg (lessF c S)))+Int.ofNat S.length==Int.ofNat (lowN (edg c))
theorem rmay_ok {b fl:Bool} {c:List Opn} {S:List Int} (hz:Szs c) (hV:Vc c) (hn:c.length≤60) (hS:S.length≤1000):VP (sE r) 105 [.p (eOpns b c),.p (eInts fl S)] (bv (mayB c S)):=by
 refine VP.of (fn:=Tryz.f105) tb_ok (wk_ok rfl) (by kernel_rfl) rfl rfl rfl ?_
 refine VSt.go tb_ok false [] 200 rfl AllP.n ?_
 refine VSt.loopT (ti:=6) S.length [0,1] (fun k=>[(5,.p (eOpns (leftB b c S k) (lessF c (S.take k))))]) (fun _=>[]) (fun _=>True) rfl rfl (u0_cons rfl (AImp.refl _) u0_nil) trivial trivial (fun k hk _=>?_)
 refine VSt.go tb_ok false [] 200 rfl AllP.n ?_
 refine VSt.cond rfl (fun h=>?_) (fun h=>?_)
 ·have h:=nlt h
  refine VSt.go tb_ok false [] 200 rfl (AllP.c ‹_› (AllP.c rfl AllP.n)) ?_
  refine VSt.pc rfl rfl rfl rfl rfl rfl rfl rfl ((rless_ok (b:=leftB b c S k) (s:=S.getD k 0) (lessF_facts (S.take k) hV hz).2.1)) ?_
  refine VSt.go tb_ok false [] 200 rfl (AllP.c (by unfold inR;(try simp only [Int.ofNat_eq_natCast]);omega) AllP.n) ?_
  refine ⟨h,?_,trivial⟩
  dsimp only
  rw [show leftB b c S (k+1)=(lessF c (S.take (k+1))).isEmpty from rfl,lessF_step h]
  (refine Vw.drop (by repeat (first | exact wf_nil | refine wf_back rfl rfl rfl ?_ | refine wf_cons rfl ‹_› (ren_only _ ‹_›) ?_)))
 ·have h:k=S.length:=by have:=nge h;omega
  subst h
  rw [List.take_length]
  obtain ⟨f1,f2,f3⟩:=lessF_facts S hV hz
  have b1:=low_bd f1 (by omega)
  have b2:=low_bd hV hn
  refine VSt.go tb_ok false [] 200 rfl AllP.n ?_
  refine VSt.pc rfl rfl rfl rfl rfl rfl rfl rfl ((rfewest_ok (b:=leftB b c S S.length) f2 f1 (by omega))) ?_
  refine VSt.go tb_ok false [] 200 rfl (AllP.c (by unfold inR;(try simp only [Int.ofNat_eq_natCast]);omega) AllP.n) ?_
  refine VSt.pc rfl rfl rfl rfl rfl rfl rfl rfl ((rfewest_ok (b:=b) hz hV hn)) ?_
  refine VSt.go tb_ok false [] 200 rfl AllP.n ?_
  exact EndsP.mk rfl rfl rfl rfl
theorem mayB_iff {c:List Opn} (h:Vc c) {S:List Int} (hp:∀ x,x∈S→0≤x):mayB c S=true ↔ may c (natL S):=by
 have e:S=(natL S).map Int.ofNat:=by
  unfold natL
  rw [List.map_map]
  conv=>lhs;rw [←List.map_id S]
  refine List.map_congr_left fun x hx=>?_
  have:=hp x hx
  show x=Int.ofNat x.toNat
  simp only [Int.ofNat_eq_natCast];omega
 have e2:lowN (edg (lessF c S))=lowN (edg (lessC c (natL S))):=by rw [←low_lessF h,←e]
 unfold mayB may
 rw [e2,natL_len]
 simp only [beq_iff_eq,Int.ofNat_eq_natCast]
 omega
end Go.Proofs.YtbieflpgjmgaiaaGreat
/- Walks: the reference's answers. -/
set_option maxRecDepth 100000
namespace Go.Proofs.YtbieflpgjmgaiaaGreat
open Kuhn
variable {r:Rm}
def isN (o x:Opn):Bool:=isP o x||isP x o
def stS (c:List Opn) (o:Opn) (k:Nat):List Int:=o.source::preL c (isN o) (·.source) k
noncomputable def stayB (c:List Opn) (o:Opn):Bool:=Int.ofNat (lowN (edg (lessF c (stS c o c.length))))+Int.ofNat (preL c (isN o) (·.source) c.length).length==Int.ofNat (lowN (edg c))
theorem stS_t {c:List Opn} {o:Opn} {k:Nat} (h:k<c.length) (hp:isN o (nth c k)=true):lessF c (stS c o (k+1))=lessI (lessF c (stS c o k)) (nth c k).source:=by
 unfold stS lessF
 rw [preL_t h hp,←List.cons_append,List.foldl_append];rfl
set_option maxHeartbeats 4000000 in
theorem rstays_ok {b:Bool} {c:List Opn} {o:Opn} (hz:Szs c) (hzo:Sz o) (hV:Vc c) (hn:c.length≤60):VP (sE r) 106 [.p (eOpns b c),.agg ((eOpn o).map .p)] (bv (stayB c o)):=by
 refine VP.of (fn:=Tryz.f106) tb_ok (wk_ok rfl) (by kernel_rfl) rfl rfl rfl ?_
 refine VSt.go tb_ok false [] 200 rfl AllP.n ?_
 refine VSt.pc rfl rfl rfl rfl rfl rfl rfl rfl ((rless_ok (b:=b) (s:=o.source) hz)) ?_
 refine VSt.go tb_ok false [] 200 rfl AllP.n ?_
 refine VSt.viewC (Vw.freezeC 0 (eOpn o) rfl rfl) ?_
 refine VSt.loopT (ti:=7) c.length [0,3] (fun k=>[(5,.p (eLO (lessF c (stS c o k)))),(6,nv (preL c (isN o) (·.source) k).length)]) (fun _=>[]) (fun _=>True) rfl rfl (u0_cons rfl (AImp.refl _) (u0_cons rfl (AImp.refl _) u0_nil)) trivial trivial (fun k hk _=>?_)
 have hpl:=preL_len (l:=c) (p:=isN o) (f:=(·.source)) (k:=k)
 obtain ⟨f1,f2,f3⟩:=lessF_facts (stS c o k) hV hz
 refine VSt.go tb_ok false [] 200 rfl AllP.n ?_
 refine VSt.cond rfl (fun h=>?_) (fun h=>?_)
 ·have h:=nlt h
  have yes:isN o (nth c k)=true→(preL c (isN o) (·.source) (k+1)).length=(preL c (isN o) (·.source) k).length+1:=fun h1=>by rw [preL_t h h1,List.length_append];rfl
  refine VSt.go tb_ok false [] 200 rfl (AllP.c ‹_› (AllP.c rfl AllP.n)) ?_
  refine VSt.pcD rfl rfl rfl rfl rfl rfl rfl rfl ((rclash_ok (a:=o) (b:=nth c k) hzo (hz.each k h))) ?_
  refine VSt.go tb_ok false [] 200 rfl AllP.n ?_
  refine VSt.splitD 24 rfl (fun h1=>?x1) (fun h1=>?x2)
  case' x1 =>
   have h1:(isP o (nth c k)&&true)=true:=h1
   have hN:isN o (nth c k)=true:=by unfold isN;rw [Bool.and_true] at h1;rw [h1];rfl
   refine VSt.go tb_ok false [] 200 rfl (AllP.c ‹_› (AllP.c rfl AllP.n)) ?_
  case' x2 =>
   have h1:(isP o (nth c k)&&true)=false:=h1
   refine VSt.go tb_ok false [] 200 rfl (AllP.c ‹_› (AllP.c rfl AllP.n)) ?_
   refine VSt.pcD rfl rfl rfl rfl rfl rfl rfl rfl ((rclash_ok (a:=nth c k) (b:=o) (hz.each k h) hzo)) ?_
   refine VSt.go tb_ok false [] 200 rfl AllP.n ?_
   refine VSt.cond rfl (fun h2=>?_) (fun h2=>?_)
   rotate_left
   ·have h2:(isP (nth c k) o&&true)=false:=h2
    have hN:isN o (nth c k)=false:=by unfold isN;rw [Bool.and_true] at h1 h2;rw [h1,h2];rfl
    refine VSt.go tb_ok false [] 200 rfl (AllP.c (by unfold inR;(try simp only [Int.ofNat_eq_natCast]);omega) AllP.n) ?_
    refine ⟨h,?_,trivial⟩
    dsimp only
    rw [show stS c o (k+1)=stS c o k by unfold stS;rw [preL_f h hN],preL_f h hN]
    (refine Vw.drop (by repeat (first | exact wf_nil | refine wf_back rfl rfl rfl ?_ | refine wf_cons rfl ‹_› (ren_only _ ‹_›) ?_)))
   have h2:(isP (nth c k) o&&true)=true:=h2
   have hN:isN o (nth c k)=true:=by unfold isN;rw [Bool.and_true] at h1 h2;rw [h1,h2];rfl
   refine VSt.go tb_ok false [] 200 rfl (AllP.c ‹_› (AllP.c rfl AllP.n)) ?_
  all_goals
   refine VSt.pc rfl rfl rfl rfl rfl rfl rfl rfl ((rless_ok (b:=(lessF c (stS c o k)).isEmpty) (s:=(nth c k).source) f2)) ?_
   refine VSt.go tb_ok false [] 200 rfl (AllP.c (by unfold inR;(try simp only [Int.ofNat_eq_natCast]);omega) (AllP.c (by unfold inR;(try simp only [Int.ofNat_eq_natCast]);omega) AllP.n)) ?_
   refine ⟨h,?_,trivial⟩
   dsimp only
   rw [stS_t h hN,yes hN]
   (refine Vw.drop (by repeat (first | exact wf_nil | refine wf_back rfl rfl rfl ?_ | refine wf_cons rfl ‹_› (ren_only _ ‹_›) ?_)))
 ·have h:k=c.length:=by have:=nge h;omega
  subst h
  have b1:=low_bd f1 (by omega)
  have b2:=low_bd hV hn
  refine VSt.go tb_ok false [] 200 rfl AllP.n ?_
  refine VSt.pc rfl rfl rfl rfl rfl rfl rfl rfl ((rfewest_ok (b:=(lessF c (stS c o c.length)).isEmpty) f2 f1 (by omega))) ?_
  refine VSt.go tb_ok false [] 200 rfl (AllP.c (by unfold inR;(try simp only [Int.ofNat_eq_natCast]);omega) AllP.n) ?_
  refine VSt.pc rfl rfl rfl rfl rfl rfl rfl rfl ((rfewest_ok (b:=b) hz hV hn)) ?_
  refine VSt.go tb_ok false [] 200 rfl AllP.n ?_
  exact EndsP.mk rfl rfl rfl rfl
theorem isN_cl {c:List Opn} (h:Vc c) {o x:Opn} (ho:o∈c) (hx:x∈c):isN o x=clB x o:=by
 unfold isN isP
 rw [clB_comm o x]
 have r1:=(h.ok o ho).reg
 have r2:=(h.ok x hx).reg
 cases hc:clB x o with
 | false=>simp
 | true =>
  have hne:x.register≠o.register:=by
   unfold clB at hc
   simp only [Bool.and_eq_true,Bool.not_eq_true',beq_eq_false_iff_ne] at hc
   exact hc.1
  rcases r1 with r1 | r1 <;> rcases r2 with r2 | r2 <;> first | omega | (rw [r1,r2];rfl)
theorem stay_src {c:List Opn} (h:Vc c) {o:Opn} (ho:o∈c):preL c (isN o) (·.source) c.length=(near c o).map Int.ofNat:=by
 rw [preL_all]
 unfold near
 rw [List.map_map,List.filter_congr (q:=fun b=>clB o b) fun x hx=>(isN_cl h ho hx).trans (clB_comm x o)]
 exact List.map_congr_left fun x hx=>(h.ok x (List.mem_filter.1 hx).1).src
theorem stayB_iff {c:List Opn} (h:Vc c) (hn:c.length≤60) {o:Opn} (ho:o∈c):stayB c o=true ↔ may c (near c o):=by
 have e:lowN (edg (lessF c (stS c o c.length)))=lowN (edg (lessC c (near c o))):=by
  unfold stS
  rw [stay_src h ho,(h.ok o ho).src,←List.map_cons,low_lessF h,stay_more h hn ho]
 unfold stayB may
 rw [e,stay_src h ho,List.length_map]
 simp only [beq_iff_eq,Int.ofNat_eq_natCast]
 omega
theorem rtruth_ok {b:Bool} {c:List Opn} {o:Opn} (hz:Szs c) (hV:Vc c) (hn:c.length≤60) (ho:o∈c):VP (sE r) 58 [.p (eOpns b c),.agg ((eOpn o).map .p)] (iv (truI c o)):=by
 have hzo:=hz.mem ho
 have hpos:=(hV.ok o ho).pos
 have e1:mayB c [o.source]=true ↔ may c [src o]:=mayB_iff hV (S:=[o.source]) fun x hx=>by rw [List.mem_singleton.1 hx];omega
 have e2:=stayB_iff hV hn ho
 refine VP.of (fn:=Tryz.f58) tb_ok (wk_ok rfl) (by kernel_rfl) rfl rfl rfl ?_
 refine VSt.go tb_ok false [] 200 rfl AllP.n ?_
 refine VSt.pc rfl rfl rfl rfl rfl rfl rfl rfl ((VP.imp (rmay_ok (b:=b) (fl:=false) (S:=[o.source]) hz hV hn (show 1≤1000 by decide)) ⟨AImp.refl _,lit1,trivial⟩)) ?_
 refine VSt.go tb_ok false [] 200 rfl AllP.n ?_
 refine VSt.cond rfl (fun h=>?_) (fun h=>?_)
 ·have h:=nt h
  refine VSt.go tb_ok false [] 200 rfl AllP.n ?_
  refine EndsP.mk rfl rfl rfl ?_
  unfold truI;rw [if_neg (fun hm=>by rw [e1.2 hm] at h;cases h)];rfl
 ·have h:=nf h
  refine VSt.go tb_ok false [] 200 rfl AllP.n ?_
  refine VSt.pc rfl rfl rfl rfl rfl rfl rfl rfl ((rstays_ok (b:=b) (o:=o) hz hzo hV hn)) ?_
  refine VSt.go tb_ok false [] 200 rfl AllP.n ?_
  refine VSt.cond rfl (fun h2=>?_) (fun h2=>?_)
  ·have h2:stayB c o=true:=h2
   refine VSt.go tb_ok false [] 200 rfl AllP.n ?_
   refine EndsP.mk rfl rfl rfl ?_
   unfold truI;rw [if_pos (e1.1 h),if_pos (e2.1 h2)];rfl
  ·have h2:stayB c o=false:=h2
   refine VSt.go tb_ok false [] 200 rfl AllP.n ?_
   refine EndsP.mk rfl rfl rfl ?_
   unfold truI;rw [if_pos (e1.1 h),if_neg (fun hm=>by rw [e2.2 hm] at h2;cases h2)];rfl
noncomputable def sureB (c O:List Opn):Bool:=!mayB c (O.map (·.source))
theorem mayB_nil (c:List Opn):mayB c []=true:=by
 unfold mayB lessF
 simp
theorem takeO {O:List Opn} {k:Nat} (h:k<O.length):(O.take (k+1)).map (·.source)=(O.take k).map (·.source)++[(nth O k).source]:=by
 rw [take_nth h,List.map_append];rfl
set_option maxHeartbeats 4000000 in
theorem surely_ok {b fl:Bool} {c O:List Opn} (hz:Szs c) (hV:Vc c) (hn:c.length≤60) (hO:O.length≤1000):VP (sE r) 70 [.p (eOpns b c),.p (eOpns fl O)] (bv (sureB c O)):=by
 refine VP.of (fn:=Tryz.f70) tb_ok (wk_ok rfl) (by kernel_rfl) rfl rfl rfl ?_
 refine VSt.go tb_ok false [] 200 rfl AllP.n ?_
 refine VSt.viewC (Vw.adopt 0 1 (fL []) 3 rfl) ?_
 refine VSt.loopT (ti:=6) O.length [0,1] (fun k=>[(5,.acc true 0 1 ((O.take k).map (·.source)).length)]) (fun k=>[(0,.acc ((O.take k).map (·.source)).length 1 (fL ((O.take k).map (·.source))) 3)]) (fun _=>True) rfl rfl (u0_cons rfl AImp.nilAcc u0_nil) (LImp.refl _) trivial (fun k hk _=>?_)
 have hlen:((O.take k).map (·.source)).length≤1000:=by rw [List.length_map,List.length_take];omega
 refine VSt.go tb_ok false [] 200 rfl AllP.n ?_
 refine VSt.cond rfl (fun h=>?_) (fun h=>?_)
 ·have h:=nlt h
  have e:=takeO h
  have hN:=congrArg List.length e
  rw [List.length_append,List.length_singleton] at hN
  refine VSt.go tb_ok false [] 200 rfl (AllP.c ‹_› (AllP.c rfl (AllP.c (by omega) (AllP.c (by omega) (AllP.c (fun q hq=>match q,hq with | 0,_=>rfl) (AllP.c rfl (AllP.c rfl (AllP.c rfl (AllP.c (by unfold inR;(try simp only [Int.ofNat_eq_natCast]);omega) AllP.n))))))))) ?_
  refine ⟨h,?_,trivial⟩
  exact Wk.vw (ps:=[(0,1)]) ⟨rfl,rfl,(by repeat (first | exact wf_nil | refine wf_back rfl rfl rfl ?_ | refine wf_imp rfl rfl (AImp.acc hN.symm (fun _=>rfl)) ?_)),_,rfl,⟨rfl,BImp.acc hN.symm (fun x hx=>by rw [e];exact app_int _ _ x hx),trivial⟩⟩
 ·have h:k=O.length:=by have:=nge h;omega
  subst h
  rw [List.take_length] at hlen ⊢
  refine VSt.go tb_ok false [21] 200 rfl AllP.n ?_
  refine VSt.viewO (Vw.kp [0,5] [(0,0)] rfl) ?_
  refine VSt.viewO (Vw.freezeA 0 rfl rfl ⟨Nat.le_refl _,rfl⟩) ?_
  refine VSt.putO 5 (.p (eInts (O.map (·.source)).isEmpty (O.map (·.source)))) rfl (by exact AImp.of_eq (acc_eInts (j:=0) rfl)) ?_
  refine VSt.go tb_ok false [] 200 rfl AllP.n ?_
  refine VSt.splitO 24 rfl (fun h1=>?_) (fun h1=>?_)
  ·refine VSt.go tb_ok false [] 200 rfl AllP.n ?_
   refine VSt.pc rfl rfl rfl rfl rfl rfl rfl rfl ((rmay_ok (b:=b) (fl:=(O.map (·.source)).isEmpty) (S:=O.map (·.source)) hz hV hn hlen)) ?_
   refine VSt.go tb_ok false [] 200 rfl AllP.n ?_
   exact EndsP.mk rfl rfl rfl rfl
  ·have h1:=n0' h1
   refine VSt.go tb_ok false [] 200 rfl AllP.n ?_
   refine EndsP.mk rfl rfl rfl ?_
   show bv false=bv _
   unfold sureB
   rw [List.length_eq_zero_iff.1 h1,mayB_nil];rfl
def onP (day:Int) (o:Opn):Bool:=wth day o.day o.through
theorem on_ok {b:Bool} {c:List Opn} {day:Int} (hz:Szs c):VP (sE r) 71 [.p (eOpns b c),iv day] (.p (eLO (c.filter (onP day)))):=by
 have hn:=hz.len
 refine VP.of (fn:=Tryz.f71) tb_ok (wk_ok rfl) (by kernel_rfl) rfl rfl rfl ?_
 refine VSt.go tb_ok false [] 200 rfl AllP.n ?_
 refine VSt.viewC (Vw.adopt 0 9 (fO []) 45 rfl) ?_
 refine VSt.loopT (ti:=6) c.length [0,1] (fun k=>[(5,.acc true 0 9 (preL c (onP day) id k).length)]) (fun k=>[(0,.acc (preL c (onP day) id k).length 9 (fO (preL c (onP day) id k)) 45)]) (fun _=>True) rfl rfl (u0_cons rfl AImp.nilAcc u0_nil) (LImp.refl _) trivial (fun k hk _=>?_)
 have hlen:=preL_len (l:=c) (p:=onP day) (f:=id) (k:=k)
 refine VSt.go tb_ok false [] 200 rfl AllP.n ?_
 refine VSt.cond rfl (fun h=>?_) (fun h=>?_)
 ·have h:=nlt h
  refine VSt.go tb_ok false [] 200 rfl (AllP.c ‹_› (AllP.c rfl (AllP.c ‹_› (AllP.c rfl AllP.n)))) ?_
  refine VSt.pcD rfl rfl rfl rfl rfl rfl rfl rfl ((rIn_ok day (nth c k).day (nth c k).through)) ?_
  refine VSt.go tb_ok false [] 200 rfl AllP.n ?_
  refine VSt.cond rfl (fun h2=>?_) (fun h2=>?_)
  ·have e:=preL_t (p:=onP day) (f:=id) h h2
   have hN:=congrArg List.length e
   rw [List.length_append,List.length_singleton] at hN
   refine VSt.go tb_ok false [] 200 rfl (AllP.c ‹_› (AllP.c rfl (AllP.c (by omega) (AllP.c (by omega) (AllP.c (fun q hq=>match q,hq with | 0,_=>rfl) (AllP.c rfl (AllP.c rfl (AllP.c rfl (AllP.c (by unfold inR;(try simp only [Int.ofNat_eq_natCast]);omega) AllP.n))))))))) ?_
   refine ⟨h,?_,trivial⟩
   exact Wk.vw (ps:=[(0,1)]) ⟨rfl,rfl,(by repeat (first | exact wf_nil | refine wf_back rfl rfl rfl ?_ | refine wf_imp rfl rfl (AImp.acc hN.symm (fun _=>rfl)) ?_)),_,rfl,⟨rfl,BImp.acc hN.symm (fun x hx=>by rw [e];exact app_opn _ _ _ rfl x hx),trivial⟩⟩
  ·refine VSt.go tb_ok false [] 200 rfl (AllP.c (by unfold inR;(try simp only [Int.ofNat_eq_natCast]);omega) AllP.n) ?_
   refine ⟨h,?_,trivial⟩
   dsimp only
   rw [preL_f (p:=onP day) (f:=id) h h2]
   refine Wk.vw (ps:=[(0,0)]) ⟨rfl,rfl,(by repeat (first | exact wf_nil | refine wf_back rfl rfl rfl ?_)),_,rfl,((LImp.refl _))⟩
 ·have h:k=c.length:=by have:=nge h;omega
  subst h
  rw [preL_all,List.map_id]
  refine VSt.go tb_ok false [32] 200 rfl AllP.n ?_
  refine VSt.viewO (Vw.kp [5] [(0,0)] rfl) ?_
  refine VSt.viewO (Vw.freezeA 0 rfl rfl ⟨Nat.le_refl _,rfl⟩) ?_
  refine VSt.go tb_ok false [] 200 rfl AllP.n ?_
  refine EndsP.mk rfl rfl rfl ?_
  exact acc_eLO rfl
end Go.Proofs.YtbieflpgjmgaiaaGreat
/- Walks: the reference's True, Inside, Sealed: the same answers. -/
set_option maxRecDepth 100000
namespace Go.Proofs.YtbieflpgjmgaiaaGreat
open Kuhn
variable {r:Rm}
def hasP (paper:Int) (o:Opn):Bool:=hasI o.inn paper
def hasQ (paper:Int) (o:Opn):Bool:=hasI o.out paper
open Classical in
noncomputable def insR (c:List Opn) (paper day:Int):Int:=if sureB c ((c.filter (onP day)).filter (hasP paper))=true then 1 else if sureB c ((c.filter (onP day)).filter (hasQ paper))=true then 0 else 2
set_option maxHeartbeats 4000000 in
theorem rinside_ok {b:Bool} {c:List Opn} {paper day:Int} (hz:Szs c) (hV:Vc c) (hn:c.length≤60):VP (sE r) 63 [.p (eOpns b c),iv paper,iv day] (iv (insR c paper day)):=by
 refine VP.of (fn:=Tryz.f63) tb_ok (wk_ok rfl) (by kernel_rfl) rfl rfl rfl ?_
 refine VSt.go tb_ok false [] 200 rfl AllP.n ?_
 refine VSt.pc rfl rfl rfl rfl rfl rfl rfl rfl ((on_ok (b:=b) (day:=day) hz)) ?_
 have hOl:(c.filter (onP day)).length≤c.length:=List.length_filter_le _ _
 have hzO:Szs (c.filter (onP day)):=Szs.of (by omega) fun o ho=>hz.mem (List.mem_filter.1 ho).1
 unfold insR
 revert hOl hzO
 generalize c.filter (onP day)=O
 intro hOl hzO
 refine VSt.go tb_ok false [] 200 rfl AllP.n ?_
 refine VSt.viewC (Vw.adopt 0 9 (fO []) 45 rfl) ?_
 refine VSt.viewC (Vw.adopt 1 9 (fO []) 45 rfl) ?_
 refine VSt.viewC (Vw.kp [0,1,7,8,9,10] [(0,0),(1,1)] rfl) ?_
 refine VSt.loopT (ti:=10) O.length [0,1,7] (fun k=>[(8,.acc true 0 9 (preL O (hasP paper) id k).length),(9,.acc true 1 9 (preL O (hasQ paper) id k).length)]) (fun k=>[(0,.acc (preL O (hasP paper) id k).length 9 (fO (preL O (hasP paper) id k)) 45),(1,.acc (preL O (hasQ paper) id k).length 9 (fO (preL O (hasQ paper) id k)) 45)]) (fun _=>True) rfl rfl (u0_cons rfl AImp.nilAcc (u0_cons rfl AImp.nilAcc u0_nil)) (LImp.refl _) trivial (fun k hk _=>?_)
 have hlen:=preL_len (l:=O) (p:=hasP paper) (f:=id) (k:=k)
 have hlen2:=preL_len (l:=O) (p:=hasQ paper) (f:=id) (k:=k)
 refine VSt.go tb_ok false [] 200 rfl AllP.n ?_
 refine VSt.cond rfl (fun h=>?_) (fun h=>?_)
 ·have h:=nlt h
  have hs:=(hzO.each k h).inn
  have hs2:=(hzO.each k h).out
  refine VSt.go tb_ok false [] 200 rfl (AllP.c ‹_› (AllP.c rfl AllP.n)) ?_
  refine VSt.pc rfl rfl rfl rfl rfl rfl rfl rfl ((rHas_ok (b:=(nth O k).inB) (l:=(nth O k).inn) (n:=paper) hs)) ?_
  refine VSt.go tb_ok false [] 200 rfl AllP.n ?_
  refine VSt.cond rfl (fun h1=>?x1) (fun h1=>?x2)
  case' x1 =>
   have h1:hasP paper (nth O k)=true:=h1
   have e:=preL_t (f:=id) h h1
   have hN:=congrArg List.length e
   rw [List.length_append,List.length_singleton] at hN
   refine VSt.go tb_ok false [] 200 rfl (AllP.c ‹_› (AllP.c rfl (AllP.c (by omega) (AllP.c (by omega) (AllP.c (fun q hq=>match q,hq with | 0,_=>rfl) (AllP.c rfl (AllP.c rfl (AllP.c rfl (AllP.c ‹_› (AllP.c rfl AllP.n)))))))))) ?_
   refine VSt.viewO (Wk.vw (ps:=[(0,2),(1,1)]) (F0:=[(0,.p (eOpns b c)),(1,iv paper),(7,.p (eLO O)),(8,.acc true 0 9 (preL O (hasP paper) id (k+1)).length),(9,.acc true 1 9 (preL O (hasQ paper) id k).length),(10,nv k),(38,.p (eInts (nth O k).outB (nth O k).out)),(39,iv paper)]) (L0:=[(0,.acc (preL O (hasP paper) id (k+1)).length 9 (fO (preL O (hasP paper) id (k+1))) 45),(1,.acc (preL O (hasQ paper) id k).length 9 (fO (preL O (hasQ paper) id k)) 45)]) ⟨rfl,rfl,(by repeat (first | exact wf_nil | refine wf_back rfl rfl rfl ?_ | refine wf_imp rfl rfl (AImp.acc hN.symm (fun _=>rfl)) ?_)),_,rfl,⟨rfl,BImp.acc hN.symm (fun x hx=>by rw [e];exact app_opn _ _ _ rfl x hx),rfl,BImp.refl _,trivial⟩⟩) ?_
  case' x2 =>
   have h1:hasP paper (nth O k)=false:=h1
   have e:=preL_f (f:=id) h h1
   refine VSt.go tb_ok false [] 200 rfl (AllP.c ‹_› (AllP.c rfl AllP.n)) ?_
   rw [←e]
   refine VSt.viewO (Wk.vw (ps:=[(0,0),(1,1)]) (F0:=[(0,.p (eOpns b c)),(1,iv paper),(7,.p (eLO O)),(8,.acc true 0 9 (preL O (hasP paper) id (k+1)).length),(9,.acc true 1 9 (preL O (hasQ paper) id k).length),(10,nv k),(38,.p (eInts (nth O k).outB (nth O k).out)),(39,iv paper)]) (L0:=[(0,.acc (preL O (hasP paper) id (k+1)).length 9 (fO (preL O (hasP paper) id (k+1))) 45),(1,.acc (preL O (hasQ paper) id k).length 9 (fO (preL O (hasQ paper) id k)) 45)]) ⟨rfl,rfl,(by repeat (first | exact wf_nil | refine wf_back rfl rfl rfl ?_)),_,rfl,LImp.refl _⟩) ?_
  all_goals
   refine VSt.pc rfl rfl rfl rfl rfl rfl rfl rfl ((rHas_ok (b:=(nth O k).outB) (l:=(nth O k).out) (n:=paper) hs2)) ?_
   refine VSt.go tb_ok false [] 200 rfl AllP.n ?_
   refine VSt.cond rfl (fun h2=>?_) (fun h2=>?_)
   ·have h2:hasQ paper (nth O k)=true:=h2
    have e2:=preL_t (f:=id) h h2
    have hN2:=congrArg List.length e2
    rw [List.length_append,List.length_singleton] at hN2
    refine VSt.go tb_ok false [] 200 rfl (AllP.c ‹_› (AllP.c rfl (AllP.c (by omega) (AllP.c (by omega) (AllP.c (fun q hq=>match q,hq with | 0,_=>rfl) (AllP.c rfl (AllP.c rfl (AllP.c rfl (AllP.c (by unfold inR;(try simp only [Int.ofNat_eq_natCast]);omega) AllP.n))))))))) ?_
    refine ⟨h,?_,trivial⟩
    exact Wk.vw (ps:=[(0,0),(1,2)]) ⟨rfl,rfl,(by repeat (first | exact wf_nil | refine wf_back rfl rfl rfl ?_ | refine wf_imp rfl rfl (AImp.acc hN2.symm (fun _=>rfl)) ?_)),_,rfl,⟨rfl,BImp.refl _,rfl,BImp.acc hN2.symm (fun x hx=>by rw [e2];exact app_opn _ _ _ rfl x hx),trivial⟩⟩
   ·have h2:hasQ paper (nth O k)=false:=h2
    refine VSt.go tb_ok false [] 200 rfl (AllP.c (by unfold inR;(try simp only [Int.ofNat_eq_natCast]);omega) AllP.n) ?_
    refine ⟨h,?_,trivial⟩
    dsimp only
    rw [preL_f (p:=hasQ paper) (f:=id) h h2]
    refine Wk.vw (ps:=[(0,0),(1,1)]) ⟨rfl,rfl,(by repeat (first | exact wf_nil | refine wf_back rfl rfl rfl ?_)),_,rfl,((LImp.refl _))⟩
 ·have h:k=O.length:=by have:=nge h;omega
  subst h
  rw [preL_all,preL_all,List.map_id,List.map_id] at *
  refine VSt.go tb_ok false [48] 200 rfl AllP.n ?_
  refine VSt.viewO (Vw.kp [0,8,9] [(0,0),(1,1)] rfl) ?_
  refine VSt.viewO (Vw.freezeA 0 rfl rfl ⟨Nat.le_refl _,rfl⟩) ?_
  refine VSt.viewO (Vw.freezeA 1 rfl rfl ⟨Nat.le_refl _,rfl⟩) ?_
  refine VSt.putO 8 (.p (eLO (O.filter (hasP paper)))) rfl (by exact AImp.of_eq (acc_eLO rfl)) ?_
  refine VSt.putO 9 (.p (eLO (O.filter (hasQ paper)))) rfl (by exact AImp.of_eq (acc_eLO rfl)) ?_
  refine VSt.go tb_ok false [] 200 rfl AllP.n ?_
  refine VSt.pc rfl rfl rfl rfl rfl rfl rfl rfl ((surely_ok (b:=b) (fl:=(O.filter (hasP paper)).isEmpty) (O:=O.filter (hasP paper)) hz hV hn (by omega))) ?_
  refine VSt.go tb_ok false [] 200 rfl AllP.n ?_
  refine VSt.cond rfl (fun h1=>?_) (fun h1=>?_)
  ·refine VSt.go tb_ok false [] 200 rfl AllP.n ?_
   refine EndsP.mk rfl rfl rfl ?_
   rw [if_pos h1];rfl
  ·refine VSt.go tb_ok false [] 200 rfl AllP.n ?_
   refine VSt.pc rfl rfl rfl rfl rfl rfl rfl rfl ((surely_ok (b:=b) (fl:=(O.filter (hasQ paper)).isEmpty) (O:=O.filter (hasQ paper)) hz hV hn (by omega))) ?_
   refine VSt.go tb_ok false [] 200 rfl AllP.n ?_
   refine VSt.cond rfl (fun h2=>?_) (fun h2=>?_)
   ·refine VSt.go tb_ok false [] 200 rfl AllP.n ?_
    refine EndsP.mk rfl rfl rfl ?_
    rw [if_neg (by rw [h1];decide),if_pos h2];rfl
   ·refine VSt.go tb_ok false [] 200 rfl AllP.n ?_
    refine EndsP.mk rfl rfl rfl ?_
    rw [if_neg (by rw [h1];decide),if_neg (by rw [h2];decide)];rfl
end Go.Proofs.YtbieflpgjmgaiaaGreat
/- Walks: the law of what is true, and lay in the chest, and was sealed. -/
set_option maxRecDepth 100000
namespace Go.Proofs.YtbieflpgjmgaiaaGreat
open Kuhn
variable {r:Rm}
theorem srcs_of {l:List Opn} (hR:Reg l) {p:Opn→Bool}:natL ((l.filter p).map (·.source))=(l.filter p).map src∧∀ x,x∈(l.filter p).map (·.source)→0≤x:=⟨(src_list hR p).2.2.1,(src_list hR p).1⟩
theorem sureB_iff {l:List Opn} {d:Int} (hR:Reg l) (p:Opn→Bool):sureB (cnt l d nb) (l.filter p)=true ↔ ¬ may (cnt l d nb) ((l.filter p).map src):=by
 obtain ⟨h1,h2⟩:=srcs_of hR (p:=p)
 have h3:=mayB_iff (hR.cnt d nb) h2
 rw [h1] at h3
 unfold sureB
 rw [Bool.not_eq_true',←Bool.not_eq_true,h3]
theorem on_in {l:List Opn} {d day paper:Int} (hp:paper≠0):((cnt l d nb).filter (onP day)).filter (hasP paper)=l.filter (inP d day paper):=by
 rw [cnt_nb,List.filter_filter,List.filter_filter]
 refine List.filter_congr fun x _=>?_
 unfold hasP onP inP
 rw [beq_false_of_ne hp,Bool.false_or]
 cases counts x d <;> cases wth day x.day x.through <;> simp
theorem on_out {l:List Opn} {d day paper:Int}:((cnt l d nb).filter (onP day)).filter (hasQ paper)=l.filter (outP d day paper):=by
 rw [cnt_nb,List.filter_filter,List.filter_filter]
 refine List.filter_congr fun x _=>?_
 unfold hasQ onP outP
 cases counts x d <;> cases wth day x.day x.through <;> simp
theorem insR_eq {l:List Opn} {d day paper:Int} (hR:Reg l) (hp:wth paper 1 999=true):insR (cnt l d nb) paper day=insI l d paper day:=by
 have hp:=wth_iff.1 hp
 unfold insR insI
 rw [on_in (by omega),on_out]
 have h1:=sureB_iff (d:=d) hR (inP d day paper)
 have h2:=sureB_iff (d:=d) hR (outP d day paper)
 by_cases m1:may (cnt l d nb) ((l.filter (inP d day paper)).map src)
 ·rw [if_neg (fun h=>h1.1 h m1),if_pos m1]
  by_cases m2:may (cnt l d nb) ((l.filter (outP d day paper)).map src)
  ·rw [if_neg (fun h=>h2.1 h m2),if_pos m2]
  ·rw [if_pos (h2.2 m2),if_neg m2]
 ·rw [if_pos (h1.2 m1),if_neg m1]
theorem szs_cnt {l:List Opn} {d:Int} (hz:Szs l):Szs (cnt l d nb):=Szs.of (Nat.lt_of_le_of_lt (List.length_filter_le _ _) hz.len) fun o ho=>hz.mem (List.mem_filter.1 ho).1
theorem ask2_day {l:List Opn} {day d:Int} (hR:Reg l):ask2 l day d=if (wth day 0 100000&&wth d 0 100000)=true then 0 else 6:=if_pos hR
theorem VP.hook {E:Env} {f:FuncId} (hk:hookL E f []=true):VP E f [] (bv true) :=
 ⟨rfl,fun S Z j vs hS hv hl=>by
  cases hv
  exact ⟨1,.bool true,S,fun m hm=>by
   obtain ⟨k,rfl,_⟩:=le_succ_ex hm
   show bf (hookL E f []) _ _=_
   rw [hk];rfl,bv true,[],Z,j,hS,.p (.bool true),Ex.refl _ _ _,hl,Stay.refl _ _,rfl,rfl⟩⟩
theorem same_not {x:Int} {P:Prop} (h:(x==x)=false):P:=by rw [beq_self_eq_true] at h;cases h
end Go.Proofs.YtbieflpgjmgaiaaGreat
