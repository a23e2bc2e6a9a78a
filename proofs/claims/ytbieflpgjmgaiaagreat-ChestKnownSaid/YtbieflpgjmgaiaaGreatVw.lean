/- The program's ChestKnown returns true for all numbers without an exception and without changing its arguments: a part of the proof. -/
import Derived.Test.YtbieflpgjmgaiaaGreatVu
import Derived.Test.YtbieflpgjmgaiaaGreatVs
set_option linter.all false
/- Openings copied, openings without one: what is true of them. -/
set_option maxRecDepth 100000
namespace Go.Proofs.YtbieflpgjmgaiaaGreat
open Kuhn
variable {r:Rm}
theorem Reg.hits {l:List Opn} (h:Reg l):l.Pairwise fun a b=>hit a b=false:=by
 rw [List.pairwise_iff_getElem]
 intro i j hi hj hij
 have:=h.apart j hj i hij
 unfold nth at this
 rwa [getD_get hi,getD_get hj] at this
theorem Reg.of {l:List Opn} (h1:l.length≤60) (h2:∀ o,o∈l→OkO o) (h3:l.Pairwise fun a b=>a.source<b.source) (h4:l.Pairwise fun a b=>hit a b=false):Reg l:=by
 rw [List.pairwise_iff_getElem] at h3 h4
 refine ⟨h1,fun i hi=>h2 _ (getD_mem hi),fun i h0 hi=>?_,fun i hi k hk=>?_⟩
 ·unfold nth
  rw [getD_get hi,getD_get (show i - 1<l.length by omega)]
  exact h3 (i - 1) i (by omega) hi (by omega)
 ·unfold nth
  rw [getD_get hi,getD_get (show k<l.length by omega)]
  exact h4 k i (by omega) hi hk
theorem Reg.lessP {l:List Opn} (h:Reg l) (s:Int):Reg (lessP l s) :=
 Reg.of (Nat.le_trans (List.length_filter_le _ _) h.len) (fun o ho=>h.vc.ok o (List.mem_filter.1 ho).1) (h.vc.rise.filter _) (h.hits.filter _)
theorem Reg.cp {l:List Opn} (h:Reg l):Reg (l.map cpO) :=
 Reg.of (by rw [List.length_map];exact h.len) (fun o ho=>by
  obtain ⟨x,hx,rfl⟩:=List.mem_map.1 ho
  exact cpO_ok (h.vc.ok x hx)) (by rw [List.pairwise_map];exact h.vc.rise) (by rw [List.pairwise_map];exact h.hits)
theorem lessI_eq (l:List Opn) (s:Int):lessI l s=(lessP l s).map cpO:=rfl
theorem Reg.lessI {l:List Opn} (h:Reg l) (s:Int):Reg (lessI l s):=(h.lessP s).cp
theorem fm_cp (l:List Opn) (p:Opn→Bool) (h:∀ o,p (cpO o)=p o):(l.map cpO).filter p=(l.filter p).map cpO:=by
 rw [List.filter_map,show p ∘ cpO=p from funext h]
theorem cnt_cp (l:List Opn) (d:Int):cnt (l.map cpO) d nb=(cnt l d nb).map cpO:=by
 rw [cnt_nb,cnt_nb]
 exact fm_cp l _ fun _=>rfl
end Go.Proofs.YtbieflpgjmgaiaaGreat
/- Walks: Moved, the program's and the reference's. -/
set_option maxRecDepth 100000
namespace Go.Proofs.YtbieflpgjmgaiaaGreat
open Kuhn
variable {r:Rm}
noncomputable def movP (l:List Opn) (s d:Int) (o:Opn):Bool:=!(truI (cnt l d nb) o==truI (cnt (lessP l s) d nb) o)
noncomputable def movK (l:List Opn) (s d:Int) (k:Nat):List Int:=preL (lessP l s) (fun o=>counts o d&&movP l s d o) (·.source) k
noncomputable def movL (l:List Opn) (s d:Int):List Int:=((cnt (lessP l s) d nb).filter (movP l s d)).map (·.source)
theorem movK_all {l:List Opn} {s d:Int}:movK l s d (lessP l s).length=movL l s d:=by
 unfold movK movL
 rw [preL_all]
 congr 1
 conv=>rhs;rw [show (cnt (lessP l s) d nb).filter (movP l s d)=((lessP l s).filter fun o=>counts o d).filter (movP l s d) by rw [←cnt_nb]]
 rw [List.filter_filter]
 congr 1;funext o
 rw [Bool.and_comm]
theorem movL_mon {l:List Opn} (hR:Reg l) {s d:Int}:Mon (movL l s d):=by
 have hV:=((hR.lessP s).cnt d nb).filter (movP l s d)
 have hp:(movL l s d).Pairwise (· < ·):=by
  unfold movL
  rw [List.pairwise_map]
  exact hV.rise
 rw [List.pairwise_iff_getElem] at hp
 intro p q h1 h2
 rw [getD_get h2,getD_get (show p<(movL l s d).length by omega)]
 by_cases e:p=q
 ·subst e;exact Int.le_refl _
 ·exact Int.le_of_lt (hp p q (by omega) h2 (by omega))
theorem movL_len {l:List Opn} (hR:Reg l) {s d:Int}:(movL l s d).length≤60:=by
 unfold movL
 rw [List.length_map]
 exact Nat.le_trans (List.length_filter_le _ _) (Vc.len (hR.lessP s) (c:=cnt (lessP l s) d nb) rfl)
open Classical in
noncomputable def movV (l:List Opn) (s d:Int):List Int:=if askE l d=0∧hasS l s=true then movL l s d else []
noncomputable def movE (l:List Opn) (s d:Int):Int:=if askE l d=0 then (if hasS l s=true then 0 else 3) else askE l d
set_option maxHeartbeats 4000000 in
theorem Moved_ok {b:Bool} {l:List Opn} {s d:Int} (hz:SzsW l):VP (sE r) 23 [.p (eOpns b l),iv s,iv d] (.tup [.p (eL (movV l s d)),iv (movE l s d)]):=by
 have hlk:=look_ok (r:=r) (b:=b) (ds:=[d]) hz (show 0<1 by decide) (show 1<1000000 by decide)
 refine VP.of (fn:=Tryz.f23) tb_ok (wk_ok rfl) (by kernel_rfl) rfl rfl rfl ?_
 refine VSt.go tb_ok false [] 200 rfl AllP.n ?_
 rcases ask_cases l d with ⟨hR,hd,hE⟩ | ⟨hE,hl⟩
 ·have hz:=hR.szs
  have hw:=without_ok (r:=r) (b:=b) (s:=s) hR
  rw [(look1 (b:=b) hR hd).1,(look1 (b:=b) hR hd).2] at hlk
  refine VSt.pc rfl rfl rfl rfl rfl rfl rfl rfl ((VP.imp hlk ⟨AImp.refl _,lit1,trivial⟩)) ?_
  refine VSt.go tb_ok false [9] 200 rfl AllP.n ?_
  refine VSt.viewO (Vw.freezeC 0 [knP b l d] rfl rfl) ?_
  refine VSt.go tb_ok false [] 200 rfl AllP.n ?_
  refine VSt.cond rfl (fun h=>absurd h (by decide)) (fun _=>?_)
  refine VSt.go tb_ok false [] 200 rfl AllP.n ?_
  cases hs:hasS l s with
  | false =>
   have eV:movV l s d=[]:=if_neg (fun h=>by rw [hs] at h;cases h.2)
   have eE:movE l s d=3:=by unfold movE;rw [if_pos hE,if_neg (by rw [hs];decide)]
   rw [eV,eE]
   have ew:woP l s=eOpns true []:=by unfold woP;rw [hs];rfl
   rw [hs,ew] at hw
   refine VSt.pc rfl rfl rfl rfl rfl rfl rfl rfl (hw) ?_
   refine VSt.go tb_ok false [] 200 rfl AllP.n ?_
   refine VSt.cond rfl (fun _=>?_) (fun h=>absurd h (by decide))
   refine VSt.go tb_ok false [7] 200 rfl AllP.n ?_
   refine VSt.putO 6 (.p (eL [])) rfl AImp.nil ?_
   refine VSt.go tb_ok false [] 200 rfl AllP.n ?_
   exact EndsP.mk rfl rfl rfl rfl
  | true =>
   have eV:movV l s d=movL l s d:=if_pos ⟨hE,hs⟩
   have eE:movE l s d=0:=by unfold movE;rw [if_pos hE,if_pos hs]
   rw [eV,eE]
   have ew:woP l s=eOpns false (lessP l s):=by unfold woP;rw [hs];rfl
   rw [hs,ew] at hw
   have hR2:=hR.lessP s
   have hz2:=hR2.szs
   have hll:=hR2.len
   refine VSt.pc rfl rfl rfl rfl rfl rfl rfl rfl (hw) ?_
   refine VSt.go tb_ok false [] 200 rfl AllP.n ?_
   refine VSt.cond rfl (fun h=>absurd h (by decide)) (fun _=>?_)
   refine VSt.go tb_ok false [37] 200 rfl AllP.n ?_
   refine VSt.asideB (eKn false (lessP l s) d) rfl rfl rfl rfl rfl rfl ?_
   refine VSt.go tb_ok false [13] 200 rfl AllP.n ?_
   refine VSt.viewO (Vw.freezeC 0 [knP false (lessP l s) d] rfl rfl) ?_
   refine VSt.go tb_ok false [] 200 rfl AllP.n ?_
   refine VSt.pc rfl rfl rfl rfl rfl rfl rfl rfl ((counting_ok false (lessP l s) d)) ?_
   refine VSt.go tb_ok false [] 200 rfl AllP.n ?_
   refine VSt.viewC (Vw.kp [8,12,13,39] [(0,0)] rfl) ?_
   refine VSt.viewC (Vw.adopt 1 1 (fL []) 3 rfl) ?_
   refine VSt.viewC (Wk.vw (ps:=[(0,0),(1,1)]) (F0:=[(8,.p (knB b l d)),(12,.p (knB false (lessP l s) d)),(13,.ref 0 0),(39,knF false (lessP l s) d)]) (L0:=memL 0 1 []) ⟨rfl,rfl,(by repeat (first | exact wf_nil | refine wf_back rfl rfl rfl ?_)),_,rfl,⟨rfl,BImp.cell1 AImp.nilAcc,rfl,BImp.refl _,trivial⟩⟩) ?_
   refine VSt.rangeFuncG [(0,2),(1,0),(2,1)] (stc:=[0,1]) rfl rfl rfl rfl rfl rfl rfl rfl (cnt1_ok (b:=false) (l:=lessP l s) (d:=d) (by omega) (G1:=fun k=>(40,.agg ((eOpn (nth (lessP l s) k)).map .p))::[(8,.p (knB b l d)),(12,.p (knB false (lessP l s) d)),(13,.ref 1 0),(39,knF false (lessP l s) d)]) [1]
    (fun k L=>L=memL 1 2 (movK l s d k)) (fun _=>False) rfl (fun _=>rfl) ?_ ?_) ?_
   ·rintro k L hk hc rfl
    rw [show movK l s d (k+1)=movK l s d k from preL_f hk (by show (counts (nth (lessP l s) k) d&&_)=_;rw [hc];rfl)]
   ·rintro k L hk hc rfl
    have hlen:(movK l s d k).length≤(lessP l s).length:=preL_len
    have hin2:nth (lessP l s) k∈cnt (lessP l s) d nb:=by rw [cnt_nb];exact List.mem_filter.2 ⟨getD_mem hk,hc⟩
    have hin1:nth (lessP l s) k∈cnt l d nb:=by rw [cnt_nb];exact List.mem_filter.2 ⟨(List.mem_filter.1 (getD_mem hk)).1,hc⟩
    refine VSt.go tb_ok false [14] 200 rfl AllP.n ?_
    refine VSt.aside (eOpn (nth (lessP l s) k)) tb_ok rfl rfl rfl rfl rfl rfl rfl rfl rfl rfl rfl ?_
    refine VSt.go tb_ok false [] 200 rfl AllP.n ?_
    refine ⟨rfl,_,rfl,?_⟩
    refine VSt.go tb_ok false [] 200 rfl AllP.n ?_
    refine VSt.pcD rfl rfl rfl rfl rfl rfl rfl rfl ((truth_ok (b:=b) (d:=d) hz hR hin1)) ?_
    refine VSt.go tb_ok false [] 200 rfl AllP.n ?_
    refine VSt.pcD rfl rfl rfl rfl rfl rfl rfl rfl ((truth_ok (b:=false) (d:=d) hz2 hR2 hin2)) ?_
    refine VSt.go tb_ok false [] 200 rfl AllP.n ?_
    refine VSt.cond rfl (fun h2=>?_) (fun h2=>?_)
    ·have h2:movP l s d (nth (lessP l s) k)=true:=h2
     have e:movK l s d (k+1)=movK l s d k++[(nth (lessP l s) k).source]:=preL_t hk (by show (counts (nth (lessP l s) k) d&&_)=_;rw [hc,h2];rfl)
     have hN:=congrArg List.length e
     rw [List.length_append,List.length_singleton] at hN
     refine VSt.go tb_ok false [] 200 rfl (AllP.c (by omega) (AllP.c (by omega) (AllP.c (fun q hq=>match q,hq with | 0,_=>rfl) (AllP.c rfl (AllP.c rfl (AllP.c rfl AllP.n)))))) ?_
     exact .inl ⟨rfl,[],_,by refine Wk.vw (ps:=[(0,0),(1,1),(2,3)]) ⟨rfl,rfl,(by repeat (first | exact wf_nil | refine wf_back rfl rfl rfl ?_)),_,rfl,(⟨rfl,BImp.refl _,rfl,BImp.cell1 (AImp.acc hN.symm (fun _=>rfl)),rfl,BImp.acc hN.symm (fun x hx=>by rw [e];exact app_int _ _ x hx),trivial⟩)⟩,rfl⟩
    ·have h2:movP l s d (nth (lessP l s) k)=false:=h2
     have e:movK l s d (k+1)=movK l s d k:=preL_f hk (by show (counts (nth (lessP l s) k) d&&_)=_;rw [hc,h2];rfl)
     refine VSt.go tb_ok false [] 200 rfl AllP.n ?_
     rw [←e]
     exact .inl ⟨rfl,[],_,by refine Wk.vw (ps:=[(0,0),(1,1),(2,2)]) ⟨rfl,rfl,(by repeat (first | exact wf_nil | refine wf_back rfl rfl rfl ?_)),_,rfl,((LImp.refl _))⟩,rfl⟩
   ·rintro a L' (⟨L,rfl,rfl⟩ | ⟨G2,L,hJ,rfl⟩)
    rotate_left
    ·exact hJ.elim
    refine ⟨_,_,_,_,_,_,_,_,rfl,rfl,rfl,?_⟩
    rw [movK_all]
    refine VSt.viewC (Vw.kp [13] [(0,0),(1,1)] rfl) ?_
    refine VSt.viewC (Vw.freezeA 1 rfl rfl ⟨Nat.le_refl _,rfl⟩) ?_
    refine VSt.go tb_ok false [] 200 rfl AllP.n ?_
    refine VSt.putO 55 (.p (eL (movL l s d))) rfl (AImp.of_eq (acc_eInts (j:=0) rfl)) ?_
    refine VSt.pc rfl rfl rfl rfl rfl rfl rfl rfl ((sortFunc_ok (b:=(movL l s d).isEmpty) (movL_mon hR) (movL_len hR))) ?_
    refine VSt.go tb_ok false [] 200 rfl AllP.n ?_
    refine EndsP.mk rfl rfl rfl ?_
    have e1:=acc_eInts (j:=0) (l:=movL l s d) rfl
    show AV.tup [_,_]=AV.tup [_,_]
    rw [show AV.p (eL (movL l s d))=_ from e1.symm]
    rfl
 ·rw [(hl b).1,(hl b).2] at hlk
  have eV:movV l s d=[]:=if_neg (fun h=>hE h.1)
  have eE:movE l s d=askE l d:=if_neg hE
  rw [eV,eE]
  refine VSt.pc rfl rfl rfl rfl rfl rfl rfl rfl ((VP.imp hlk ⟨AImp.refl _,lit1,trivial⟩)) ?_
  refine VSt.go tb_ok false [] 200 rfl AllP.n ?_
  refine VSt.cond rfl (fun _=>?_) (fun h=>?_)
  ·refine VSt.go tb_ok false [7] 200 rfl AllP.n ?_
   refine VSt.putO 6 (.p (eL [])) rfl AImp.nil ?_
   refine VSt.go tb_ok false [] 200 rfl AllP.n ?_
   exact EndsP.mk rfl rfl rfl rfl
  ·have h:(!(askE l d==0))=false:=h
   exact absurd (by simpa using h) hE
end Go.Proofs.YtbieflpgjmgaiaaGreat
