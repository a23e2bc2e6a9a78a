/- The program's ChestMore returns true for all numbers without an exception and without changing its arguments: a part of the proof. -/
import Derived.Test.YtbieflpgjmgaiaaGreatVv
import Derived.Test.YtbieflpgjmgaiaaGreatVt
set_option linter.all false
/- The law ChestMore. -/
set_option maxRecDepth 100000
namespace Go.Proofs.YtbieflpgjmgaiaaGreat
open Kuhn
variable {r:Rm}
theorem few_good {b:Bool} {l:List Opn} {d:Int} (hR:Reg l) (h2:wth d 0 100000=true):VP (sE r) 34 [.p (eOpns b l),iv d] (.tup [nv (lowN (edg (cnt l d nb))),iv 0]):=by
 have h:=Fewest_ok (r:=r) (b:=b) (d:=d) hR.szw
 have ea:askE l d=0:=by unfold askE;rw [if_pos hR,if_pos h2]
 have e1:fewV l d=lowN (edg (cnt l d nb)):=by unfold fewV;rw [if_pos ea]
 rw [e1,ea] at h
 exact h
theorem tru_miss {b:Bool} {l:List Opn} {d s:Int} (hR:Reg l) (h2:wth d 0 100000=true) (hf:fnd l d s=none):VP (sE r) 11 [.p (eOpns b l),iv s,iv d] (.tup [iv 0,iv 62]):=by
 have h:=True_ok (r:=r) (b:=b) (s:=s) (d:=d) hR.szw
 have ea:askE l d=0:=by unfold askE;rw [if_pos hR,if_pos h2]
 have e1:truV l d s=0:=by unfold truV;rw [if_pos ea,hf]
 have e2:truE l d s=62:=by unfold truE;rw [if_pos ea,hf];rfl
 rw [e1,e2] at h
 exact h
set_option maxHeartbeats 8000000 in
theorem chestMore_law {t:Tr (List Value×TypeId)} {b:Bool} {l:List Raw} {n0 n1:Int} (hn:l.length<9223372036854775808) (hq:∀ k,k<l.length→inR (l.getD k default).a7):VP (sE (t,true)) 8 [.p (eRaws b l),.agg [iv n0,iv n1]] (bv true):=by
 have hR:=made_reg l
 have hM:=Made_ok (r:=(t,true)) (b:=b) hn hq
 have hD:=Mod_ok (r:=(t,true)) (n:=n0) (m:=12) (by decide) (by decide)
 have hd0:=md_bd (n:=n0) (m:=12) (by decide)
 have hd:wth (md n0 12) 0 100000=true:=wth_iff.2 (by omega)
 generalize made l=x at *
 generalize md n0 12=d at *
 have hxl:=hR.len
 refine VP.of (fn:=Tryz.f8) tb_ok (wk_ok rfl) (by kernel_rfl) rfl rfl rfl ?_
 refine VSt.go tb_ok false [] 200 rfl AllP.n ?_
 refine VSt.pc rfl rfl rfl rfl rfl rfl rfl rfl ((VP.hook rfl)) ?_
 refine VSt.go tb_ok false [] 200 rfl AllP.n ?_
 refine VSt.pc rfl rfl rfl rfl rfl rfl rfl rfl (hM) ?_
 refine VSt.go tb_ok false [] 200 rfl (AllP.c (by show 0<_;omega) AllP.n) ?_
 refine VSt.pc rfl rfl rfl rfl rfl rfl rfl rfl (hD) ?_
 refine VSt.go tb_ok false [] 200 rfl AllP.n ?_
 refine VSt.cond rfl (fun _=>?_) (fun h0=>?_)
 ·refine VSt.go tb_ok false [] 200 rfl AllP.n ?_
  exact EndsP.mk rfl rfl rfl rfl
 have h0:0<x.length:=by
  have h0:(Int.ofNat x.length==0)=false:=h0
  rcases Nat.eq_zero_or_pos x.length with e | e
  ·rw [e] at h0;cases h0
  ·exact e
 have hm1:(0:Int)<Int.ofNat x.length:=by simp only [Int.ofNat_eq_natCast];omega
 have hMi:=Mod_okN (r:=(t,true)) (n:=n1) (m:=Int.ofNat x.length) hm1 (by simp only [Int.ofNat_eq_natCast];omega)
 have hqi:mdN n1 (Int.ofNat x.length)<x.length:=by
  have:=md_bd (n:=n1) hm1
  unfold mdN
  simp only [Int.ofNat_eq_natCast] at this ⊢
  omega
 generalize mdN n1 (Int.ofNat x.length)=q at *
 refine VSt.go tb_ok false [] 200 rfl (AllP.c (Nat.le_refl _) AllP.n) ?_
 refine VSt.pc rfl rfl rfl rfl rfl rfl rfl rfl (hMi) ?_
 refine VSt.go tb_ok false [8] 200 rfl (AllP.c ‹_› (AllP.c rfl AllP.n)) ?_
 refine VSt.aside (eOpn (nth x q)) tb_ok rfl rfl rfl rfl rfl rfl rfl rfl rfl rfl rfl ?_
 have hox:nth x q∈x:=getD_mem hqi
 have hs:hasS x (nth x q).source=true:=hasS_at hqi
 have hw:=Without_ok (r:=(t,true)) (b:=x.isEmpty) (s:=(nth x q).source) hR
 have ew:woP x (nth x q).source=eOpns false (lessP x (nth x q).source):=by unfold woP;rw [hs];rfl
 rw [ew,hs] at hw
 have hRl:=hR.lessP (nth x q).source
 have hO:=hR.ok q hqi
 have hWi:=With_ok (r:=(t,true)) (b:=false) (o:=nth x q) hRl.szw (SzW.of hO.sz)
 have hll:(lessP x (nth x q).source).length=x.length - 1:=(lessP_at hR hs).1
 obtain ⟨w1,w2⟩:=wi_good (l:=lessP x (nth x q).source) (o:=nth x q) (if_pos hRl) ⟨ckO_good hO,hasS_lessP x _⟩ (by omega) (by rw [insO_lessP hR hqi];exact if_pos hR)
 rw [w1,w2,insO_lessP hR hqi] at hWi
 have hF1:=few_good (r:=(t,true)) (b:=x.isEmpty) hR hd
 have hF2:=few_good (r:=(t,true)) (b:=false) hRl hd
 have hb1:lowN (edg (cnt x d nb))≤60:=low_bd (hR.cnt d nb) (Vc.len hR rfl)
 have hb2:lowN (edg (cnt (lessP x (nth x q).source) d nb))≤60:=low_bd (hRl.cnt d nb) (Vc.len hRl rfl)
 have hfew:=few_less hR hox (d:=d)
 have hsame:=cnt_same hR hox (d:=d)
 have hbd:lowN (edg (cnt (lessP x (nth x q).source) d nb))≤lowN (edg (cnt x d nb))∧lowN (edg (cnt x d nb))≤lowN (edg (cnt (lessP x (nth x q).source) d nb))+1:=by
  cases hc:counts (nth x q) d with
  | true=>exact ⟨(hfew hc).2.1,(hfew hc).2.2.1⟩
  | false=>rw [(hsame hc).1];exact ⟨Nat.le_refl _,Nat.le_succ _⟩
 have heq:counts (nth x q) d=false→lowN (edg (cnt (lessP x (nth x q).source) d nb))=lowN (edg (cnt x d nb)):=fun hc=>by rw [(hsame hc).1]
 have hiff:counts (nth x q) d=true→(lowN (edg (cnt x d nb))=lowN (edg (cnt (lessP x (nth x q).source) d nb))+1 ↔ truI (cnt x d nb) (nth x q)≠1):=fun hc=>(hfew hc).2.2.2
 have hin:counts (nth x q) d=true→nth x q∈cnt x d nb:=fun hc=>(hfew hc).1
 have hno:counts (nth x q) d=false→fnd x d (nth x q).source=none:=fun hc=>(hsame hc).2
 clear hfew hsame
 generalize lowN (edg (cnt (lessP x (nth x q).source) d nb))=B at *
 generalize lowN (edg (cnt x d nb))=A at *
 refine VSt.go tb_ok false [] 200 rfl AllP.n ?_
 refine VSt.pc rfl rfl rfl rfl rfl rfl rfl rfl (hw) ?_
 refine VSt.go tb_ok false [] 200 rfl AllP.n ?_
 refine VSt.pc rfl rfl rfl rfl rfl rfl rfl rfl (hWi) ?_
 refine VSt.go tb_ok false [] 200 rfl AllP.n ?_
 refine VSt.pc rfl rfl rfl rfl rfl rfl rfl rfl ((sameI_ok (b:=false) (b2:=x.isEmpty) (l:=x) (by omega) hR.in8)) ?_
 refine VSt.go tb_ok false [] 200 rfl AllP.n ?_
 refine VSt.pc rfl rfl rfl rfl rfl rfl rfl rfl (hF1) ?_
 refine VSt.go tb_ok false [] 200 rfl AllP.n ?_
 refine VSt.pc rfl rfl rfl rfl rfl rfl rfl rfl (hF2) ?_
 refine VSt.go tb_ok false [] 200 rfl AllP.n ?_
 refine VSt.splitO 68 rfl (fun g1=>?_) (fun g1=>?_)
 ·exact absurd g1 (by decide)
 refine VSt.go tb_ok false [] 200 rfl AllP.n ?_
 refine VSt.splitO 72 rfl (fun g2=>?_) (fun g2=>?_)
 ·exact absurd g2 (by decide)
 refine VSt.go tb_ok false [] 200 rfl AllP.n ?_
 refine VSt.splitO 76 rfl (fun g3=>?_) (fun g3=>?_)
 ·exact absurd g3 (by decide)
 refine VSt.go tb_ok false [] 200 rfl AllP.n ?_
 refine VSt.splitO 80 rfl (fun g4=>?_) (fun g4=>?_)
 ·exact absurd g4 (by decide)
 refine VSt.go tb_ok false [] 200 rfl AllP.n ?_
 refine VSt.splitO 84 rfl (fun g5=>?_) (fun g5=>?_)
 ·exact absurd g5 (by decide)
 refine VSt.go tb_ok false [] 200 rfl AllP.n ?_
 refine VSt.splitO 88 rfl (fun g6=>?_) (fun g6=>?_)
 ·exact absurd g6 (by decide)
 refine VSt.go tb_ok false [] 200 rfl AllP.n ?_
 refine VSt.splitO 92 rfl (fun g7=>?_) (fun g7=>?_)
 all_goals refine VSt.go tb_ok false [] 200 rfl (by repeat (first | exact AllP.n | refine AllP.c (by first | assumption | rfl | omega | exact Nat.le_refl _ | (show 0<_;omega) | (show 1<_;omega) | (show 2<_;omega) | (show 3<_;omega) | (intro _ _;rfl) | (intro q hq;match q,hq with | 0,_=>rfl) | (unfold inR;(try simp only [Int.ofNat_eq_natCast]);omega)) ?_)) ?_
 refine VSt.cond rfl (fun g8=>?_) (fun _=>?_)
 ·have g7:(!(Int.ofNat A==Int.ofNat B))=true:=g7
  have g8:(!(Int.ofNat A==Int.ofNat B+1))=true:=g8
  exfalso
  have g7:=nt g7
  have g8:=nt g8
  rw [beq_eq_false_iff_ne] at g7 g8
  simp only [Int.ofNat_eq_natCast] at g7 g8
  omega
 refine VSt.go tb_ok false [] 200 rfl AllP.n ?_
 all_goals
  cases hc:counts (nth x q) d with
  | true =>
   have hT:=tru_good (r:=(t,true)) (b:=x.isEmpty) hR hd (hin hc)
   have hif:=hiff hc
   generalize truI (cnt x d nb) (nth x q)=T at *
   refine VSt.pc rfl rfl rfl rfl rfl rfl rfl rfl (hT) ?_
   refine VSt.go tb_ok false [] 200 rfl AllP.n ?_
   refine VSt.pc rfl rfl rfl rfl rfl rfl rfl rfl ((lawCounts_ok (nth x q) d)) ?_
   rw [hc]
   refine VSt.go tb_ok false [] 200 rfl AllP.n ?_
   refine VSt.cond rfl (fun h=>absurd h (by decide)) (fun _=>?_)
   refine VSt.go tb_ok false [] 200 rfl AllP.n ?_
   refine VSt.splitO 120 rfl (fun g9=>?_) (fun g9=>?_)
   rotate_left
   ·exact absurd g9 (by decide)
   refine VSt.go tb_ok false [] 200 rfl (AllP.c (by unfold inR;(try simp only [Int.ofNat_eq_natCast]);omega) AllP.n) ?_
   refine EndsP.mk rfl rfl rfl ?_
   show bv _=bv _
   have e:(Int.ofNat A==Int.ofNat B+1) = !(T==1):=by
    rw [Bool.eq_iff_iff]
    simp only [beq_iff_eq,Bool.not_eq_true',beq_eq_false_iff_ne,Int.ofNat_eq_natCast]
    exact ⟨fun h=>hif.1 (by omega),fun h=>by have:=hif.2 h;omega⟩
   rw [e,beq_self_eq_true]
  | false =>
   have hT:=tru_miss (r:=(t,true)) (b:=x.isEmpty) hR hd (hno hc)
   have hAB:=heq hc
   subst hAB
   refine VSt.pc rfl rfl rfl rfl rfl rfl rfl rfl (hT) ?_
   refine VSt.go tb_ok false [] 200 rfl AllP.n ?_
   refine VSt.pc rfl rfl rfl rfl rfl rfl rfl rfl ((lawCounts_ok (nth x q) d)) ?_
   rw [hc]
   refine VSt.go tb_ok false [] 200 rfl AllP.n ?_
   refine VSt.cond rfl (fun _=>?_) (fun h=>absurd h (by decide))
   refine VSt.go tb_ok false [] 200 rfl AllP.n ?_
   refine VSt.splitO 113 rfl (fun g9=>?_) (fun g9=>?_)
   rotate_left
   ·exact absurd g9 (by decide)
   refine VSt.go tb_ok false [] 200 rfl AllP.n ?_
   refine EndsP.mk rfl rfl rfl ?_
   show bv _=bv _
   rw [beq_self_eq_true]
end Go.Proofs.YtbieflpgjmgaiaaGreat
