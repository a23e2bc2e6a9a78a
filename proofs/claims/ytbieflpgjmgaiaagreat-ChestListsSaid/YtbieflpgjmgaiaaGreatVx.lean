/- The program's ChestLists returns true for all openings, numbers and days, valid or not, without an exception and without changing its arguments: a part of the proof. -/
import Derived.Test.YtbieflpgjmgaiaaGreatVu
import Derived.Test.YtbieflpgjmgaiaaGreatVs
import Derived.Test.YtbieflpgjmgaiaaGreatVw
set_option linter.all false
/- Openings copied, openings without one: what is true of them. -/
set_option maxRecDepth 100000
namespace Go.Proofs.YtbieflpgjmgaiaaGreat
open Kuhn
variable {r:Rm}
theorem Reg.hits {l:List Opn} (h:Reg l):l.Pairwise fun a b=>hit a b=false:=by
 rw [List.pairwise_iff_getElem]
 intro i j hi hj hij
 have:=h.apart j hj i hij
 unfold nth at this
 rwa [getD_get hi,getD_get hj] at this
theorem Reg.of {l:List Opn} (h1:l.length≤60) (h2:∀ o,o∈l→OkO o) (h3:l.Pairwise fun a b=>a.source<b.source) (h4:l.Pairwise fun a b=>hit a b=false):Reg l:=by
 rw [List.pairwise_iff_getElem] at h3 h4
 refine ⟨h1,fun i hi=>h2 _ (getD_mem hi),fun i h0 hi=>?_,fun i hi k hk=>?_⟩
 ·unfold nth
  rw [getD_get hi,getD_get (show i - 1<l.length by omega)]
  exact h3 (i - 1) i (by omega) hi (by omega)
 ·unfold nth
  rw [getD_get hi,getD_get (show k<l.length by omega)]
  exact h4 k i (by omega) hi hk
theorem Reg.lessP {l:List Opn} (h:Reg l) (s:Int):Reg (lessP l s) :=
 Reg.of (Nat.le_trans (List.length_filter_le _ _) h.len) (fun o ho=>h.vc.ok o (List.mem_filter.1 ho).1) (h.vc.rise.filter _) (h.hits.filter _)
theorem Reg.cp {l:List Opn} (h:Reg l):Reg (l.map cpO) :=
 Reg.of (by rw [List.length_map];exact h.len) (fun o ho=>by
  obtain ⟨x,hx,rfl⟩:=List.mem_map.1 ho
  exact cpO_ok (h.vc.ok x hx)) (by rw [List.pairwise_map];exact h.vc.rise) (by rw [List.pairwise_map];exact h.hits)
theorem lessI_eq (l:List Opn) (s:Int):lessI l s=(lessP l s).map cpO:=rfl
theorem Reg.lessI {l:List Opn} (h:Reg l) (s:Int):Reg (lessI l s):=(h.lessP s).cp
theorem fm_cp (l:List Opn) (p:Opn→Bool) (h:∀ o,p (cpO o)=p o):(l.map cpO).filter p=(l.filter p).map cpO:=by
 rw [List.filter_map,show p ∘ cpO=p from funext h]
theorem cnt_cp (l:List Opn) (d:Int):cnt (l.map cpO) d nb=(cnt l d nb).map cpO:=by
 rw [cnt_nb,cnt_nb]
 exact fm_cp l _ fun _=>rfl
theorem edg_cp (c:List Opn):edg (c.map cpO)=edg c:=by
 funext f x
 refine propext ?_
 rw [edg_iff,edg_iff]
 constructor
 ·rintro ⟨a,ha,b,hb,h1,rfl,rfl⟩
  obtain ⟨a',ha',rfl⟩:=List.mem_map.1 ha
  obtain ⟨b',hb',rfl⟩:=List.mem_map.1 hb
  exact ⟨a',ha',b',hb',h1,rfl,rfl⟩
 ·rintro ⟨a,ha,b,hb,h1,rfl,rfl⟩
  exact ⟨cpO a,List.mem_map.2 ⟨a,ha,rfl⟩,cpO b,List.mem_map.2 ⟨b,hb,rfl⟩,h1,rfl,rfl⟩
theorem may_cp (c:List Opn) (X:List Nat):may (c.map cpO) X ↔ may c X:=by
 unfold may
 have e:lessC (c.map cpO) X=(lessC c X).map cpO:=fm_cp c _ fun _=>rfl
 rw [e,edg_cp,edg_cp]
theorem near_cp (c:List Opn) (o:Opn):near (c.map cpO) o=near c o:=by
 unfold near
 rw [fm_cp c (fun b=>clB o b) fun _=>rfl,List.map_map];rfl
theorem truI_cp (c:List Opn) (o:Opn):truI (c.map cpO) o=truI c o:=by
 unfold truI
 rw [near_cp]
 by_cases h1:may c [src o]
 ·rw [if_pos h1,if_pos ((may_cp _ _).2 h1)]
  by_cases h2:may c (near c o)
  ·rw [if_pos h2,if_pos ((may_cp _ _).2 h2)]
  ·rw [if_neg h2,if_neg fun h=>h2 ((may_cp _ _).1 h)]
 ·rw [if_neg h1,if_neg fun h=>h1 ((may_cp _ _).1 h)]
theorem rtruthC_ok {b:Bool} {c:List Opn} {o:Opn} (hz:Szs c) (hV:Vc c) (hn:c.length≤60) (ho:o∈c):VP (sE r) 58 [.p (eOpns b c),.agg ((eOpn (cpO o)).map .p)] (iv (truI c o)):=by
 have hzo:=cpO_sz (hz.mem ho)
 have hpos:=(hV.ok o ho).pos
 have e1:mayB c [o.source]=true ↔ may c [src o]:=mayB_iff hV (S:=[o.source]) fun x hx=>by rw [List.mem_singleton.1 hx];omega
 have e2:=stayB_iff hV hn ho
 refine VP.of (fn:=Tryz.f58) tb_ok (wk_ok rfl) (by kernel_rfl) rfl rfl rfl ?_
 refine VSt.go tb_ok false [] 200 rfl AllP.n ?_
 refine VSt.pc rfl rfl rfl rfl rfl rfl rfl rfl ((VP.imp (rmay_ok (b:=b) (fl:=false) (S:=[o.source]) hz hV hn (show 1≤1000 by decide)) ⟨AImp.refl _,lit1,trivial⟩)) ?_
 refine VSt.go tb_ok false [] 200 rfl AllP.n ?_
 refine VSt.cond rfl (fun h=>?_) (fun h=>?_)
 ·have h:=nt h
  refine VSt.go tb_ok false [] 200 rfl AllP.n ?_
  refine EndsP.mk rfl rfl rfl ?_
  unfold truI;rw [if_neg (fun hm=>by rw [e1.2 hm] at h;cases h)];rfl
 ·have h:=nf h
  refine VSt.go tb_ok false [] 200 rfl AllP.n ?_
  refine VSt.pc rfl rfl rfl rfl rfl rfl rfl rfl ((rstays_ok (b:=b) (o:=cpO o) hz hzo hV hn)) ?_
  refine VSt.go tb_ok false [] 200 rfl AllP.n ?_
  refine VSt.cond rfl (fun h2=>?_) (fun h2=>?_)
  ·have h2:stayB c o=true:=h2
   refine VSt.go tb_ok false [] 200 rfl AllP.n ?_
   refine EndsP.mk rfl rfl rfl ?_
   unfold truI;rw [if_pos (e1.1 h),if_pos (e2.1 h2)];rfl
  ·have h2:stayB c o=false:=h2
   refine VSt.go tb_ok false [] 200 rfl AllP.n ?_
   refine EndsP.mk rfl rfl rfl ?_
   unfold truI;rw [if_pos (e1.1 h),if_neg (fun hm=>by rw [e2.2 hm] at h2;cases h2)];rfl
end Go.Proofs.YtbieflpgjmgaiaaGreat
/- Walks: Moved, the program's and the reference's. -/
set_option maxRecDepth 100000
namespace Go.Proofs.YtbieflpgjmgaiaaGreat
open Kuhn
variable {r:Rm}
noncomputable def movP (l:List Opn) (s d:Int) (o:Opn):Bool:=!(truI (cnt l d nb) o==truI (cnt (lessP l s) d nb) o)
noncomputable def movK (l:List Opn) (s d:Int) (k:Nat):List Int:=preL (lessP l s) (fun o=>counts o d&&movP l s d o) (·.source) k
noncomputable def movL (l:List Opn) (s d:Int):List Int:=((cnt (lessP l s) d nb).filter (movP l s d)).map (·.source)
theorem movK_all {l:List Opn} {s d:Int}:movK l s d (lessP l s).length=movL l s d:=by
 unfold movK movL
 rw [preL_all]
 congr 1
 conv=>rhs;rw [show (cnt (lessP l s) d nb).filter (movP l s d)=((lessP l s).filter fun o=>counts o d).filter (movP l s d) by rw [←cnt_nb]]
 rw [List.filter_filter]
 congr 1;funext o
 rw [Bool.and_comm]
theorem movL_mon {l:List Opn} (hR:Reg l) {s d:Int}:Mon (movL l s d):=by
 have hV:=((hR.lessP s).cnt d nb).filter (movP l s d)
 have hp:(movL l s d).Pairwise (· < ·):=by
  unfold movL
  rw [List.pairwise_map]
  exact hV.rise
 rw [List.pairwise_iff_getElem] at hp
 intro p q h1 h2
 rw [getD_get h2,getD_get (show p<(movL l s d).length by omega)]
 by_cases e:p=q
 ·subst e;exact Int.le_refl _
 ·exact Int.le_of_lt (hp p q (by omega) h2 (by omega))
theorem movL_len {l:List Opn} (hR:Reg l) {s d:Int}:(movL l s d).length≤60:=by
 unfold movL
 rw [List.length_map]
 exact Nat.le_trans (List.length_filter_le _ _) (Vc.len (hR.lessP s) (c:=cnt (lessP l s) d nb) rfl)
open Classical in
noncomputable def movV (l:List Opn) (s d:Int):List Int:=if askE l d=0∧hasS l s=true then movL l s d else []
noncomputable def movE (l:List Opn) (s d:Int):Int:=if askE l d=0 then (if hasS l s=true then 0 else 3) else askE l d
set_option maxHeartbeats 4000000 in
theorem Moved_ok {b:Bool} {l:List Opn} {s d:Int} (hz:SzsW l):VP (sE r) 23 [.p (eOpns b l),iv s,iv d] (.tup [.p (eL (movV l s d)),iv (movE l s d)]):=by
 have hlk:=look_ok (r:=r) (b:=b) (ds:=[d]) hz (show 0<1 by decide) (show 1<1000000 by decide)
 refine VP.of (fn:=Tryz.f23) tb_ok (wk_ok rfl) (by kernel_rfl) rfl rfl rfl ?_
 refine VSt.go tb_ok false [] 200 rfl AllP.n ?_
 rcases ask_cases l d with ⟨hR,hd,hE⟩ | ⟨hE,hl⟩
 ·have hz:=hR.szs
  have hw:=without_ok (r:=r) (b:=b) (s:=s) hR
  rw [(look1 (b:=b) hR hd).1,(look1 (b:=b) hR hd).2] at hlk
  refine VSt.pc rfl rfl rfl rfl rfl rfl rfl rfl ((VP.imp hlk ⟨AImp.refl _,lit1,trivial⟩)) ?_
  refine VSt.go tb_ok false [9] 200 rfl AllP.n ?_
  refine VSt.viewO (Vw.freezeC 0 [knP b l d] rfl rfl) ?_
  refine VSt.go tb_ok false [] 200 rfl AllP.n ?_
  refine VSt.cond rfl (fun h=>absurd h (by decide)) (fun _=>?_)
  refine VSt.go tb_ok false [] 200 rfl AllP.n ?_
  cases hs:hasS l s with
  | false =>
   have eV:movV l s d=[]:=if_neg (fun h=>by rw [hs] at h;cases h.2)
   have eE:movE l s d=3:=by unfold movE;rw [if_pos hE,if_neg (by rw [hs];decide)]
   rw [eV,eE]
   have ew:woP l s=eOpns true []:=by unfold woP;rw [hs];rfl
   rw [hs,ew] at hw
   refine VSt.pc rfl rfl rfl rfl rfl rfl rfl rfl (hw) ?_
   refine VSt.go tb_ok false [] 200 rfl AllP.n ?_
   refine VSt.cond rfl (fun _=>?_) (fun h=>absurd h (by decide))
   refine VSt.go tb_ok false [7] 200 rfl AllP.n ?_
   refine VSt.putO 6 (.p (eL [])) rfl AImp.nil ?_
   refine VSt.go tb_ok false [] 200 rfl AllP.n ?_
   exact EndsP.mk rfl rfl rfl rfl
  | true =>
   have eV:movV l s d=movL l s d:=if_pos ⟨hE,hs⟩
   have eE:movE l s d=0:=by unfold movE;rw [if_pos hE,if_pos hs]
   rw [eV,eE]
   have ew:woP l s=eOpns false (lessP l s):=by unfold woP;rw [hs];rfl
   rw [hs,ew] at hw
   have hR2:=hR.lessP s
   have hz2:=hR2.szs
   have hll:=hR2.len
   refine VSt.pc rfl rfl rfl rfl rfl rfl rfl rfl (hw) ?_
   refine VSt.go tb_ok false [] 200 rfl AllP.n ?_
   refine VSt.cond rfl (fun h=>absurd h (by decide)) (fun _=>?_)
   refine VSt.go tb_ok false [37] 200 rfl AllP.n ?_
   refine VSt.asideB (eKn false (lessP l s) d) rfl rfl rfl rfl rfl rfl ?_
   refine VSt.go tb_ok false [13] 200 rfl AllP.n ?_
   refine VSt.viewO (Vw.freezeC 0 [knP false (lessP l s) d] rfl rfl) ?_
   refine VSt.go tb_ok false [] 200 rfl AllP.n ?_
   refine VSt.pc rfl rfl rfl rfl rfl rfl rfl rfl ((counting_ok false (lessP l s) d)) ?_
   refine VSt.go tb_ok false [] 200 rfl AllP.n ?_
   refine VSt.viewC (Vw.kp [8,12,13,39] [(0,0)] rfl) ?_
   refine VSt.viewC (Vw.adopt 1 1 (fL []) 3 rfl) ?_
   refine VSt.viewC (Wk.vw (ps:=[(0,0),(1,1)]) (F0:=[(8,.p (knB b l d)),(12,.p (knB false (lessP l s) d)),(13,.ref 0 0),(39,knF false (lessP l s) d)]) (L0:=memL 0 1 []) ⟨rfl,rfl,(by repeat (first | exact wf_nil | refine wf_back rfl rfl rfl ?_)),_,rfl,⟨rfl,BImp.cell1 AImp.nilAcc,rfl,BImp.refl _,trivial⟩⟩) ?_
   refine VSt.rangeFuncG [(0,2),(1,0),(2,1)] (stc:=[0,1]) rfl rfl rfl rfl rfl rfl rfl rfl (cnt1_ok (b:=false) (l:=lessP l s) (d:=d) (by omega) (G1:=fun k=>(40,.agg ((eOpn (nth (lessP l s) k)).map .p))::[(8,.p (knB b l d)),(12,.p (knB false (lessP l s) d)),(13,.ref 1 0),(39,knF false (lessP l s) d)]) [1]
    (fun k L=>L=memL 1 2 (movK l s d k)) (fun _=>False) rfl (fun _=>rfl) ?_ ?_) ?_
   ·rintro k L hk hc rfl
    rw [show movK l s d (k+1)=movK l s d k from preL_f hk (by show (counts (nth (lessP l s) k) d&&_)=_;rw [hc];rfl)]
   ·rintro k L hk hc rfl
    have hlen:(movK l s d k).length≤(lessP l s).length:=preL_len
    have hin2:nth (lessP l s) k∈cnt (lessP l s) d nb:=by rw [cnt_nb];exact List.mem_filter.2 ⟨getD_mem hk,hc⟩
    have hin1:nth (lessP l s) k∈cnt l d nb:=by rw [cnt_nb];exact List.mem_filter.2 ⟨(List.mem_filter.1 (getD_mem hk)).1,hc⟩
    refine VSt.go tb_ok false [14] 200 rfl AllP.n ?_
    refine VSt.aside (eOpn (nth (lessP l s) k)) tb_ok rfl rfl rfl rfl rfl rfl rfl rfl rfl rfl rfl ?_
    refine VSt.go tb_ok false [] 200 rfl AllP.n ?_
    refine ⟨rfl,_,rfl,?_⟩
    refine VSt.go tb_ok false [] 200 rfl AllP.n ?_
    refine VSt.pcD rfl rfl rfl rfl rfl rfl rfl rfl ((truth_ok (b:=b) (d:=d) hz hR hin1)) ?_
    refine VSt.go tb_ok false [] 200 rfl AllP.n ?_
    refine VSt.pcD rfl rfl rfl rfl rfl rfl rfl rfl ((truth_ok (b:=false) (d:=d) hz2 hR2 hin2)) ?_
    refine VSt.go tb_ok false [] 200 rfl AllP.n ?_
    refine VSt.cond rfl (fun h2=>?_) (fun h2=>?_)
    ·have h2:movP l s d (nth (lessP l s) k)=true:=h2
     have e:movK l s d (k+1)=movK l s d k++[(nth (lessP l s) k).source]:=preL_t hk (by show (counts (nth (lessP l s) k) d&&_)=_;rw [hc,h2];rfl)
     have hN:=congrArg List.length e
     rw [List.length_append,List.length_singleton] at hN
     refine VSt.go tb_ok false [] 200 rfl (AllP.c (by omega) (AllP.c (by omega) (AllP.c (fun q hq=>match q,hq with | 0,_=>rfl) (AllP.c rfl (AllP.c rfl (AllP.c rfl AllP.n)))))) ?_
     exact .inl ⟨rfl,[],_,by refine Wk.vw (ps:=[(0,0),(1,1),(2,3)]) ⟨rfl,rfl,(by repeat (first | exact wf_nil | refine wf_back rfl rfl rfl ?_)),_,rfl,(⟨rfl,BImp.refl _,rfl,BImp.cell1 (AImp.acc hN.symm (fun _=>rfl)),rfl,BImp.acc hN.symm (fun x hx=>by rw [e];exact app_int _ _ x hx),trivial⟩)⟩,rfl⟩
    ·have h2:movP l s d (nth (lessP l s) k)=false:=h2
     have e:movK l s d (k+1)=movK l s d k:=preL_f hk (by show (counts (nth (lessP l s) k) d&&_)=_;rw [hc,h2];rfl)
     refine VSt.go tb_ok false [] 200 rfl AllP.n ?_
     rw [←e]
     exact .inl ⟨rfl,[],_,by refine Wk.vw (ps:=[(0,0),(1,1),(2,2)]) ⟨rfl,rfl,(by repeat (first | exact wf_nil | refine wf_back rfl rfl rfl ?_)),_,rfl,((LImp.refl _))⟩,rfl⟩
   ·rintro a L' (⟨L,rfl,rfl⟩ | ⟨G2,L,hJ,rfl⟩)
    rotate_left
    ·exact hJ.elim
    refine ⟨_,_,_,_,_,_,_,_,rfl,rfl,rfl,?_⟩
    rw [movK_all]
    refine VSt.viewC (Vw.kp [13] [(0,0),(1,1)] rfl) ?_
    refine VSt.viewC (Vw.freezeA 1 rfl rfl ⟨Nat.le_refl _,rfl⟩) ?_
    refine VSt.go tb_ok false [] 200 rfl AllP.n ?_
    refine VSt.putO 55 (.p (eL (movL l s d))) rfl (AImp.of_eq (acc_eInts (j:=0) rfl)) ?_
    refine VSt.pc rfl rfl rfl rfl rfl rfl rfl rfl ((sortFunc_ok (b:=(movL l s d).isEmpty) (movL_mon hR) (movL_len hR))) ?_
    refine VSt.go tb_ok false [] 200 rfl AllP.n ?_
    refine EndsP.mk rfl rfl rfl ?_
    have e1:=acc_eInts (j:=0) (l:=movL l s d) rfl
    show AV.tup [_,_]=AV.tup [_,_]
    rw [show AV.p (eL (movL l s d))=_ from e1.symm]
    rfl
 ·rw [(hl b).1,(hl b).2] at hlk
  have eV:movV l s d=[]:=if_neg (fun h=>hE h.1)
  have eE:movE l s d=askE l d:=if_neg hE
  rw [eV,eE]
  refine VSt.pc rfl rfl rfl rfl rfl rfl rfl rfl ((VP.imp hlk ⟨AImp.refl _,lit1,trivial⟩)) ?_
  refine VSt.go tb_ok false [] 200 rfl AllP.n ?_
  refine VSt.cond rfl (fun _=>?_) (fun h=>?_)
  ·refine VSt.go tb_ok false [7] 200 rfl AllP.n ?_
   refine VSt.putO 6 (.p (eL [])) rfl AImp.nil ?_
   refine VSt.go tb_ok false [] 200 rfl AllP.n ?_
   exact EndsP.mk rfl rfl rfl rfl
  ·have h:(!(askE l d==0))=false:=h
   exact absurd (by simpa using h) hE
theorem has_len (l:List Opn) (s:Int):(Int.ofNat (lessI l s).length==Int.ofNat l.length) = !hasS l s:=by
 have h1:(lessI l s).length=(lessP l s).length:=by rw [lessI_eq,List.length_map]
 rw [h1]
 have h2:(lessP l s).length=l.length ↔ hasS l s=false:=by
  unfold lessP hasS
  rw [List.length_filter_eq_length_iff,List.any_eq_false]
  constructor
  ·intro h x hx;have:=h x hx;simpa using this
  ·intro h x hx;have:=h x hx;simpa using this
 cases hs:hasS l s with
 | true =>
  rw [hs] at h2
  exact beq_false_of_ne fun h=>by
   have:=h2.1 (Int.ofNat.inj h);cases this
 | false=>rw [h2.2 hs,beq_self_eq_true];rfl
set_option maxHeartbeats 4000000 in
theorem rMoved_ok {b:Bool} {l:List Opn} {s d:Int} (hz:SzsW l):VP (sE r) 24 [.p (eOpns b l),iv s,iv d] (.tup [.p (eL (movV l s d)),iv (movE l s d)]):=by
 have hask:=asked_ok (r:=r) (b:=b) (d:=d) hz
 refine VP.of (fn:=Tryz.f24) tb_ok (wk_ok rfl) (by kernel_rfl) rfl rfl rfl ?_
 refine VSt.go tb_ok false [] 200 rfl AllP.n ?_
 rcases ask_cases l d with ⟨hR,hd,hE⟩ | ⟨hE,_⟩
 ·have hz:=hR.szs
  have hRI:=hR.lessI s
  rw [hE] at hask
  refine VSt.pc rfl rfl rfl rfl rfl rfl rfl rfl (hask) ?_
  refine VSt.go tb_ok false [] 200 rfl AllP.n ?_
  refine VSt.cond rfl (fun h=>absurd h (by decide)) (fun _=>?_)
  refine VSt.go tb_ok false [] 200 rfl AllP.n ?_
  refine VSt.pc rfl rfl rfl rfl rfl rfl rfl rfl ((rless_ok (b:=b) (c:=l) (s:=s) hz)) ?_
  refine VSt.go tb_ok false [] 200 rfl AllP.n ?_
  refine VSt.cond rfl (fun h=>?_) (fun h=>?_)
  ·have h:(Int.ofNat (lessI l s).length==Int.ofNat l.length)=true:=h
   rw [has_len] at h
   have hs:hasS l s=false:=by simpa using h
   have eV:movV l s d=[]:=if_neg (fun h=>by rw [hs] at h;cases h.2)
   have eE:movE l s d=3:=by unfold movE;rw [if_pos hE,if_neg (by rw [hs];decide)]
   rw [eV,eE]
   refine VSt.go tb_ok false [7] 200 rfl AllP.n ?_
   refine VSt.putO 6 (.p (eL [])) rfl AImp.nil ?_
   refine VSt.go tb_ok false [] 200 rfl AllP.n ?_
   exact EndsP.mk rfl rfl rfl rfl
  have h:(Int.ofNat (lessI l s).length==Int.ofNat l.length)=false:=h
  rw [has_len] at h
  have hs:hasS l s=true:=by simpa using h
  have eE:movE l s d=0:=by unfold movE;rw [if_pos hE,if_pos hs]
  have hn1:(cnt l d nb).length≤60:=Vc.len hR rfl
  have hn2:(cnt (lessI l s) d nb).length≤60:=Vc.len hRI rfl
  have hV1:=hR.cnt d nb
  have hV2:=hRI.cnt d nb
  have hz1:=szs_cnt (d:=d) hz
  have hz2:=szs_cnt (d:=d) hRI.szs
  have e2:cnt (lessI l s) d nb=(cnt (lessP l s) d nb).map cpO:=by rw [lessI_eq,cnt_cp]
  have hat:∀ k,k<(cnt (lessI l s) d nb).length→∃ o,o∈cnt l d nb∧nth (cnt (lessI l s) d nb) k=cpO o:=fun k hk=>by
   have h1:nth (cnt (lessI l s) d nb) k∈(cnt (lessP l s) d nb).map cpO:=by rw [←e2];exact getD_mem hk
   obtain ⟨o,ho,e⟩:=List.mem_map.1 h1
   refine ⟨o,?_,e.symm⟩
   rw [cnt_nb] at ho ⊢
   obtain ⟨h3,h4⟩:=List.mem_filter.1 ho
   exact List.mem_filter.2 ⟨(List.mem_filter.1 h3).1,h4⟩
  have eV:movV l s d=((cnt (lessI l s) d nb).filter fun o=>!(truI (cnt l d nb) o==truI (cnt (lessI l s) d nb) o)).map (·.source):=by
   rw [show movV l s d=movL l s d from if_pos ⟨hE,hs⟩]
   unfold movL
   rw [e2,fm_cp _ (fun o=>!(truI (cnt l d nb) o==truI ((cnt (lessP l s) d nb).map cpO) o)) fun o=>rfl,List.map_map]
   unfold movP
   congr 2
   funext o
   rw [truI_cp]
  rw [eV,eE]
  refine VSt.go tb_ok false [] 200 rfl AllP.n ?_
  refine VSt.pc rfl rfl rfl rfl rfl rfl rfl rfl ((rcounting_ok (b:=b) hz hR (wth_iff.1 hd).2)) ?_
  refine VSt.go tb_ok false [] 200 rfl AllP.n ?_
  refine VSt.pc rfl rfl rfl rfl rfl rfl rfl rfl ((rcounting_ok (b:=(lessI l s).isEmpty) (l:=lessI l s) hRI.szs hRI (wth_iff.1 hd).2)) ?_
  generalize cnt (lessI l s) d nb=c at *
  generalize hc1:cnt l d nb=c1 at *
  generalize hM:(fun o:Opn=>!(truI c1 o==truI c o))=M at *
  have hMo:∀ o,M o = !(truI c1 o==truI c o):=fun o=>by rw [←hM]
  refine VSt.go tb_ok false [] 200 rfl AllP.n ?_
  refine VSt.viewC (Vw.adopt 0 1 (fL []) 3 rfl) ?_
  refine VSt.loopT (ti:=13) c.length [10,11] (fun k=>[(12,.acc true 0 1 (preL c M (·.source) k).length)]) (fun k=>[(0,.acc (preL c M (·.source) k).length 1 (fL (preL c M (·.source) k)) 3)]) (fun _=>True) rfl rfl (u0_cons rfl AImp.nilAcc u0_nil) (LImp.refl _) trivial (fun k hk _=>?_)
  have hlen:(preL c M (·.source) k).length≤c.length:=preL_len
  refine VSt.go tb_ok false [] 200 rfl AllP.n ?_
  refine VSt.cond rfl (fun h=>?_) (fun h=>?_)
  ·have h:=nlt h
   obtain ⟨o,ho,ek⟩:=hat k h
   have hrt:VP (sE r) 58 [.p (eOpns c1.isEmpty c1),.agg ((eOpn (nth c k)).map .p)] (iv (truI c1 (nth c k))):=by
    rw [ek];exact rtruthC_ok hz1 hV1 hn1 ho
   refine VSt.go tb_ok false [] 200 rfl (AllP.c ‹_› (AllP.c rfl AllP.n)) ?_
   refine VSt.pcD rfl rfl rfl rfl rfl rfl rfl rfl (hrt) ?_
   refine VSt.go tb_ok false [] 200 rfl (AllP.c ‹_› (AllP.c rfl AllP.n)) ?_
   refine VSt.pcD rfl rfl rfl rfl rfl rfl rfl rfl ((rtruth_ok (b:=c.isEmpty) (c:=c) (o:=nth c k) hz2 hV2 hn2 (getD_mem h))) ?_
   refine VSt.go tb_ok false [] 200 rfl AllP.n ?_
   refine VSt.cond rfl (fun h2=>?_) (fun h2=>?_)
   ·have h2:M (nth c k)=true:=by rw [hMo];exact h2
    have e:preL c M (·.source) (k+1)=preL c M (·.source) k++[(nth c k).source]:=preL_t h h2
    have hN:=congrArg List.length e
    rw [List.length_append,List.length_singleton] at hN
    refine VSt.go tb_ok false [] 200 rfl (AllP.c ‹_› (AllP.c rfl (AllP.c (by omega) (AllP.c (by omega) (AllP.c (fun q hq=>match q,hq with | 0,_=>rfl) (AllP.c rfl (AllP.c rfl (AllP.c rfl (AllP.c (by unfold inR;(try simp only [Int.ofNat_eq_natCast]);omega) AllP.n))))))))) ?_
    refine ⟨h,?_,trivial⟩
    exact Wk.vw (ps:=[(0,1)]) ⟨rfl,rfl,(by repeat (first | exact wf_nil | refine wf_back rfl rfl rfl ?_ | refine wf_imp rfl rfl (AImp.acc hN.symm (fun _=>rfl)) ?_)),_,rfl,⟨rfl,BImp.acc hN.symm (fun x hx=>by rw [e];exact app_int _ _ x hx),trivial⟩⟩
   ·have h2:M (nth c k)=false:=by rw [hMo];exact h2
    refine VSt.go tb_ok false [] 200 rfl (AllP.c (by unfold inR;(try simp only [Int.ofNat_eq_natCast]);omega) AllP.n) ?_
    refine ⟨h,?_,trivial⟩
    dsimp only
    rw [preL_f (p:=M) (f:=(·.source)) h h2]
    refine Wk.vw (ps:=[(0,0)]) ⟨rfl,rfl,(by repeat (first | exact wf_nil | refine wf_back rfl rfl rfl ?_)),_,rfl,((LImp.refl _))⟩
  ·have h:k=c.length:=by have:=nge h;omega
   subst h
   rw [preL_all]
   refine VSt.go tb_ok false [61] 200 rfl AllP.n ?_
   refine VSt.viewO (Vw.kp [12] [(0,0)] rfl) ?_
   refine VSt.viewO (Vw.freezeA 0 rfl rfl ⟨Nat.le_refl _,rfl⟩) ?_
   refine VSt.go tb_ok false [] 200 rfl AllP.n ?_
   refine EndsP.mk rfl rfl rfl ?_
   have e1:=acc_eInts (j:=0) (l:=(c.filter M).map (·.source)) rfl
   show AV.tup [_,_]=AV.tup [_,_]
   rw [show AV.p (eL ((c.filter M).map (·.source)))=_ from e1.symm]
   rfl
 ·have eV:movV l s d=[]:=if_neg (fun h=>hE h.1)
  have eE:movE l s d=askE l d:=if_neg hE
  rw [eV,eE]
  refine VSt.pc rfl rfl rfl rfl rfl rfl rfl rfl (hask) ?_
  refine VSt.go tb_ok false [] 200 rfl AllP.n ?_
  refine VSt.cond rfl (fun _=>?_) (fun h=>?_)
  ·refine VSt.go tb_ok false [7] 200 rfl AllP.n ?_
   refine VSt.putO 6 (.p (eL [])) rfl AImp.nil ?_
   refine VSt.go tb_ok false [] 200 rfl AllP.n ?_
   exact EndsP.mk rfl rfl rfl rfl
  ·have h:(!(askE l d==0))=false:=h
   exact absurd (by simpa using h) hE
end Go.Proofs.YtbieflpgjmgaiaaGreat
/- The law ChestLists. -/
set_option maxRecDepth 100000
namespace Go.Proofs.YtbieflpgjmgaiaaGreat
open Kuhn
variable {r:Rm}
set_option maxHeartbeats 4000000 in
theorem same_ok {b b2:Bool} {l:List Int} (hn:l.length≤1000):VP (sE r) 25 [.p (eInts b l),.p (eInts b2 l)] (bv true):=by
 refine VP.of (fn:=Tryz.f25) tb_ok (wk_ok rfl) (by kernel_rfl) rfl rfl rfl ?_
 refine VSt.go tb_ok false [] 200 rfl AllP.n ?_
 refine VSt.loopT (ti:=6) l.length [0,1] (fun _=>[(5,bv true)]) (fun _=>[]) (fun _=>True) rfl rfl (u0_cons rfl (AImp.of_eq (by rw [show (Int.ofNat l.length==Int.ofNat l.length)=true from beq_self_eq_true _])) u0_nil) trivial trivial (fun k hk _=>?_)
 refine VSt.go tb_ok false [] 200 rfl AllP.n ?_
 refine VSt.splitO 16 rfl (fun h=>?_) (fun h=>?_)
 ·have h:=nlt h
  refine VSt.go tb_ok false [] 200 rfl AllP.n ?_
  refine VSt.cond rfl (fun _=>?_) (fun g=>absurd g (by decide))
  refine VSt.go tb_ok false [5] 200 rfl (AllP.c ‹_› (AllP.c rfl (AllP.c ‹_› (AllP.c rfl AllP.n)))) ?_
  refine VSt.putD 29 (bv true) rfl (AImp.of_eq (by rw [beq_self_eq_true])) ?_
  refine VSt.go tb_ok false [] 200 rfl (AllP.c (by unfold inR;(try simp only [Int.ofNat_eq_natCast]);omega) AllP.n) ?_
  refine ⟨h,?_,trivial⟩
  (refine Vw.drop (by repeat (first | exact wf_nil | refine wf_back rfl rfl rfl ?_ | refine wf_cons rfl ‹_› (ren_only _ ‹_›) ?_)))
 ·have h:k=l.length:=by have:=nge h;omega
  refine VSt.go tb_ok false [] 200 rfl AllP.n ?_
  exact EndsP.mk rfl rfl rfl rfl
theorem papV_len {l:List Opn} {d:Int}:(papV l d).length≤1000:=by
 unfold papV
 rcases ask_cases l d with ⟨hR,_,hE⟩ | ⟨hE,_⟩
 ·rw [if_pos hE]
  have:=papK_len hR d l.length
  have h2:=setL_len (papL l d)
  unfold papL at h2 ⊢
  omega
 ·rw [if_neg hE];decide
theorem unV_len {l:List Opn} {d:Int}:(unV l d).length≤1000:=by
 unfold unV
 rcases ask_cases l d with ⟨hR,_,hE⟩ | ⟨hE,_⟩
 ·rw [if_pos hE,List.length_map]
  have h1:(cnt l d nb).length≤60:=Vc.len hR rfl
  have:=List.length_filter_le (badP (cnt l d nb)) (cnt l d nb)
  omega
 ·rw [if_neg hE];decide
theorem conV_len {l:List Opn} {day d:Int}:(conV l day d).length≤1000:=by
 unfold conV
 rcases ask2_cases l day d with ⟨hR,_,_,hE⟩ | ⟨hE,_⟩
 ·rw [if_pos hE]
  have:=papK_len hR d l.length
  have h2:=setL_len (papL l d)
  have h3:=List.length_filter_le (fun x=>!conP l d day x) (setL (papL l d))
  unfold papL at h2 h3 ⊢
  omega
 ·rw [if_neg hE];decide
theorem movV_len {l:List Opn} {s d:Int}:(movV l s d).length≤1000:=by
 unfold movV
 by_cases h:askE l d=0∧hasS l s=true
 ·rw [if_pos h]
  rcases ask_cases l d with ⟨hR,_,_⟩ | ⟨hE,_⟩
  ·have:=movL_len hR (s:=s) (d:=d)
   omega
  ·exact absurd h.1 hE
 ·rw [if_neg h];decide
theorem chestLists_law {t:Tr (List Value×TypeId)} {b:Bool} {l:List Opn} {s day d:Int} (hz:SzsW l):VP (sE (t,true)) 4 [.p (eOpns b l),iv s,.agg [iv day,iv d]] (bv true):=by
 refine VP.of (fn:=Tryz.f4) tb_ok (wk_ok rfl) (by kernel_rfl) rfl rfl rfl ?_
 refine VSt.go tb_ok false [] 200 rfl AllP.n ?_
 refine VSt.pc rfl rfl rfl rfl rfl rfl rfl rfl ((VP.hook rfl)) ?_
 refine VSt.go tb_ok false [] 200 rfl (AllP.c (Nat.le_refl _) AllP.n) ?_
 refine VSt.pc rfl rfl rfl rfl rfl rfl rfl rfl ((Unlawful_ok (b:=b) (d:=d) hz)) ?_
 refine VSt.go tb_ok false [] 200 rfl (AllP.c (Nat.le_refl _) AllP.n) ?_
 refine VSt.pc rfl rfl rfl rfl rfl rfl rfl rfl ((rUnlawful_ok (b:=b) (d:=d) hz)) ?_
 refine VSt.go tb_ok false [] 200 rfl (AllP.c (Nat.le_refl _) AllP.n) ?_
 refine VSt.pc rfl rfl rfl rfl rfl rfl rfl rfl ((Papers_ok (b:=b) (d:=d) hz)) ?_
 refine VSt.go tb_ok false [] 200 rfl (AllP.c (Nat.le_refl _) AllP.n) ?_
 refine VSt.pc rfl rfl rfl rfl rfl rfl rfl rfl ((rPapers_ok (b:=b) (d:=d) hz)) ?_
 refine VSt.go tb_ok false [] 200 rfl (AllP.c (by show 0<_;omega) (AllP.c (Nat.le_refl _) AllP.n)) ?_
 refine VSt.pc rfl rfl rfl rfl rfl rfl rfl rfl ((Content_ok (b:=b) (day:=day) (d:=d) hz)) ?_
 refine VSt.go tb_ok false [] 200 rfl AllP.n ?_
 refine VSt.pc rfl rfl rfl rfl rfl rfl rfl rfl ((rContent_ok (b:=b) (day:=day) (d:=d) hz)) ?_
 refine VSt.go tb_ok false [] 200 rfl (AllP.c (Nat.le_refl _) AllP.n) ?_
 refine VSt.pc rfl rfl rfl rfl rfl rfl rfl rfl ((Moved_ok (b:=b) (s:=s) (d:=d) hz)) ?_
 refine VSt.go tb_ok false [] 200 rfl (AllP.c (Nat.le_refl _) AllP.n) ?_
 refine VSt.pc rfl rfl rfl rfl rfl rfl rfl rfl ((rMoved_ok (b:=b) (s:=s) (d:=d) hz)) ?_
 refine VSt.go tb_ok false [] 200 rfl AllP.n ?_
 refine VSt.pc rfl rfl rfl rfl rfl rfl rfl rfl ((same_ok (b:=(unV l d).isEmpty) (b2:=(unV l d).isEmpty) (l:=unV l d) unV_len)) ?_
 refine VSt.go tb_ok false [] 200 rfl AllP.n ?_
 refine VSt.pc rfl rfl rfl rfl rfl rfl rfl rfl ((same_ok (b:=(papV l d).isEmpty) (b2:=(papV l d).isEmpty) (l:=papV l d) papV_len)) ?_
 refine VSt.go tb_ok false [] 200 rfl AllP.n ?_
 refine VSt.pc rfl rfl rfl rfl rfl rfl rfl rfl ((same_ok (b:=conB l day d) (b2:=(conV l day d).isEmpty) (l:=conV l day d) conV_len)) ?_
 refine VSt.go tb_ok false [] 200 rfl AllP.n ?_
 refine VSt.pc rfl rfl rfl rfl rfl rfl rfl rfl ((same_ok (b:=(movV l s d).isEmpty) (b2:=(movV l s d).isEmpty) (l:=movV l s d) movV_len)) ?_
 refine VSt.go tb_ok false [] 200 rfl AllP.n ?_
 refine VSt.splitO 101 rfl (fun h0=>?_) (fun h0=>?_)
 rotate_left
 ·exact absurd h0 (by decide)
 refine VSt.go tb_ok false [] 200 rfl AllP.n ?_
 refine VSt.splitO 104 rfl (fun h0=>?_) (fun h0=>?_)
 rotate_left
 ·exact absurd h0 (by decide)
 refine VSt.go tb_ok false [] 200 rfl AllP.n ?_
 refine VSt.splitO 109 rfl (fun h1=>?_) (fun h1=>?_)
 rotate_left
 ·exact same_not h1
 refine VSt.go tb_ok false [] 200 rfl AllP.n ?_
 refine VSt.splitO 112 rfl (fun h0=>?_) (fun h0=>?_)
 rotate_left
 ·exact absurd h0 (by decide)
 refine VSt.go tb_ok false [] 200 rfl AllP.n ?_
 refine VSt.splitO 117 rfl (fun h1=>?_) (fun h1=>?_)
 rotate_left
 ·exact same_not h1
 refine VSt.go tb_ok false [] 200 rfl AllP.n ?_
 refine VSt.splitO 120 rfl (fun h0=>?_) (fun h0=>?_)
 rotate_left
 ·exact absurd h0 (by decide)
 refine VSt.go tb_ok false [] 200 rfl AllP.n ?_
 refine VSt.splitO 125 rfl (fun h1=>?_) (fun h1=>?_)
 rotate_left
 ·exact same_not h1
 refine VSt.go tb_ok false [] 200 rfl AllP.n ?_
 refine VSt.splitO 128 rfl (fun h0=>?_) (fun h0=>?_)
 rotate_left
 ·exact absurd h0 (by decide)
 refine VSt.go tb_ok false [] 200 rfl AllP.n ?_
 refine EndsP.mk rfl rfl rfl ?_
 show bv _=bv _
 congr 2
 exact beq_self_eq_true _
end Go.Proofs.YtbieflpgjmgaiaaGreat
