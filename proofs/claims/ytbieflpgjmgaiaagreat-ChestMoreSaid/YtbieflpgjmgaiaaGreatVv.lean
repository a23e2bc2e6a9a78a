/- The program's ChestMore returns true for all numbers without an exception and without changing its arguments: a part of the proof. -/
import Derived.Test.YtbieflpgjmgaiaaGreatVu
import Derived.Test.YtbieflpgjmgaiaaGreatVe
set_option linter.all false
/- Plain: an opening put into openings. -/
set_option maxRecDepth 100000
namespace Go.Proofs.YtbieflpgjmgaiaaGreat
variable {r:Rm}
def insO (l:List Opn) (o:Opn):List Opn:=l.take (posN l o.source)++o::l.drop (posN l o.source)
theorem insO_len {l:List Opn} {o:Opn}:(insO l o).length=l.length+1:=by
 have:=posN_le l o.source
 unfold insO
 rw [List.length_append,List.length_cons,List.length_take,List.length_drop];omega
theorem insO_at {l:List Opn} {o:Opn} (k:Nat):nth (insO l o) k=if k<posN l o.source then nth l k else if k=posN l o.source then o else nth l (k - 1):=by
 have h:=posN_le l o.source
 unfold insO nth
 generalize posN l o.source=p at *
 simp only [List.getD_eq_getElem?_getD]
 by_cases c1:k<p
 ·rw [if_pos c1,List.getElem?_append_left (by rw [List.length_take];omega),List.getElem?_take,if_pos c1]
 ·rw [if_neg c1,List.getElem?_append_right (by rw [List.length_take];omega),List.length_take,Nat.min_eq_left h]
  by_cases c2:k=p
  ·rw [if_pos c2,c2,Nat.sub_self];rfl
  ·rw [if_neg c2,show k - p=(k - 1 - p)+1 by omega,List.getElem?_cons_succ,List.getElem?_drop,show p+(k - 1 - p)=k - 1 by omega]
theorem insO_cell {l:List Opn} {o:Opn} {h:Nat→List PV} (h0:h 0=eOpn o) (k:Nat):insF (fO l) h (posN l o.source) k=fO (insO l o) k:=by
 unfold insF fO
 rw [insO_at]
 by_cases c1:k<posN l o.source
 ·rw [if_pos c1,if_pos c1]
 ·rw [if_neg c1,if_neg c1]
  by_cases c2:k=posN l o.source
  ·rw [if_pos c2,if_pos c2];exact h0
  ·rw [if_neg c2,if_neg c2]
theorem posN_lessP (l:List Opn) (s:Int):posN (lessP l s) s=posN l s:=by
 unfold posN lessP
 rw [List.filter_filter]
 congr 1
 refine List.filter_congr fun o _=>?_
 by_cases e:o.source<s
 ·rw [decide_eq_true e,beq_false_of_ne (show o.source≠s by omega)];rfl
 ·rw [decide_eq_false e];rfl
theorem hasS_lessP (l:List Opn) (s:Int):hasS (lessP l s) s=false:=by
 unfold hasS lessP
 rw [List.any_eq_false]
 intro o ho
 have:=(List.mem_filter.1 ho).2
 simpa using this
theorem pos_at {l:List Opn} (hR:Reg l) {i:Nat} (hi:i<l.length):posN l (nth l i).source=i :=
 posN_eq (Nat.le_of_lt hi) (fun q hq=>hR.mono hq hi) fun q hq hl=>by
  rcases Nat.lt_or_eq_of_le hq with h | h
  ·have:=hR.mono h hl;omega
  ·subst h;exact Int.le_refl _
theorem hasS_at {l:List Opn} {i:Nat} (hi:i<l.length):hasS l (nth l i).source=true:=List.any_eq_true.2 ⟨nth l i,getD_mem hi,beq_self_eq_true _⟩
theorem insO_lessP {l:List Opn} (hR:Reg l) {i:Nat} (hi:i<l.length):insO (lessP l (nth l i).source) (nth l i)=l:=by
 have h1:=pos_at hR hi
 unfold insO
 rw [posN_lessP,h1,lessP_eq hR (hasS_at hi),h1]
 have ht:(l.take i).length=i:=by rw [List.length_take];omega
 rw [List.take_append_of_le_length (by omega),List.take_of_length_le (by omega),List.drop_append_of_le_length (by omega),List.drop_of_length_le (by omega),List.nil_append]
 have:nth l i::l.drop (i+1)=l.drop i:=by
  unfold nth
  rw [getD_get hi,←List.drop_eq_getElem_cons hi]
 rw [this,List.take_append_drop]
noncomputable def wiE (l:List Opn) (o:Opn):Int:=if ckReg l=0 then (if ckO o=0∧hasS l o.source=false then (if l.length=60 then 2 else ckReg (insO l o)) else 60) else 61
noncomputable def wiP (l:List Opn) (o:Opn):PV:=if wiE l o=0 then eOpns false (insO l o) else eOpns true []
theorem wi_reg {l:List Opn} {o:Opn} (h:ckReg l≠0):wiE l o=61∧wiP l o=eOpns true []:=by
 have e:wiE l o=61:=if_neg h
 exact ⟨e,by unfold wiP;rw [e];rfl⟩
theorem wi_opn {l:List Opn} {o:Opn} (h:ckReg l=0) (h2:¬ (ckO o=0∧hasS l o.source=false)):wiE l o=60∧wiP l o=eOpns true []:=by
 have e:wiE l o=60:=by unfold wiE;rw [if_pos h,if_neg h2]
 exact ⟨e,by unfold wiP;rw [e];rfl⟩
theorem wi_long {l:List Opn} {o:Opn} (h:ckReg l=0) (h2:ckO o=0∧hasS l o.source=false) (h3:l.length=60):wiE l o=2∧wiP l o=eOpns true []:=by
 have e:wiE l o=2:=by unfold wiE;rw [if_pos h,if_pos h2,if_pos h3]
 exact ⟨e,by unfold wiP;rw [e];rfl⟩
theorem wi_in {l:List Opn} {o:Opn} (h:ckReg l=0) (h2:ckO o=0∧hasS l o.source=false) (h3:¬ l.length=60):wiE l o=ckReg (insO l o):=by
 unfold wiE;rw [if_pos h,if_pos h2,if_neg h3]
theorem wi_bad {l:List Opn} {o:Opn} (h:ckReg l=0) (h2:ckO o=0∧hasS l o.source=false) (h3:¬ l.length=60) (h4:ckReg (insO l o)≠0):wiE l o=61∧wiP l o=eOpns true []:=by
 have e:wiE l o=61:=by rw [wi_in h h2 h3];exact (ckReg_or _).elim (fun h=>absurd h.2 h4) fun h=>h.2
 exact ⟨e,by unfold wiP;rw [e];rfl⟩
theorem wi_good {l:List Opn} {o:Opn} (h:ckReg l=0) (h2:ckO o=0∧hasS l o.source=false) (h3:¬ l.length=60) (h4:ckReg (insO l o)=0):wiE l o=0∧wiP l o=eOpns false (insO l o):=by
 have e:wiE l o=0:=by rw [wi_in h h2 h3];exact h4
 exact ⟨e,by unfold wiP;rw [e];rfl⟩
theorem SzW.of {o:Opn} (h:Sz o):SzW o:=⟨by have:=h.inn;omega,by have:=h.out;omega⟩
theorem insO_szw {l:List Opn} {o:Opn} (hR:Reg l) (hO:OkO o):SzsW (insO l o):=by
 have hl:=hR.len
 refine ⟨by rw [insO_len];omega,fun k hk=>?_⟩
 rw [insO_len] at hk
 rw [insO_at]
 by_cases c1:k<posN l o.source
 ·have:=posN_le l o.source
  rw [if_pos c1];exact SzW.of (hR.ok k (by omega)).sz
 ·rw [if_neg c1]
  by_cases c2:k=posN l o.source
  ·rw [if_pos c2];exact SzW.of hO.sz
  ·rw [if_neg c2];exact SzW.of (hR.ok (k - 1) (by omega)).sz
end Go.Proofs.YtbieflpgjmgaiaaGreat
/- Plain: how many are false at least, without an opening. -/
set_option maxRecDepth 100000
namespace Go.Proofs.YtbieflpgjmgaiaaGreat
open Kuhn
theorem cnt_less {x:List Opn} (hR:Reg x) {o:Opn} (ho:o∈x) (d:Int):cnt (lessP x o.source) d nb=lessC (cnt x d nb) [src o]:=by
 rw [cnt_nb,cnt_nb]
 unfold lessP lessC
 rw [List.filter_filter,List.filter_filter]
 refine List.filter_congr fun y hy=>?_
 have e1:=(hR.vc.ok y hy).src
 have e2:=(hR.vc.ok o ho).src
 have e3:(y.source==o.source)=[src o].contains (src y):=by
  rw [e1,e2,Bool.eq_iff_iff]
  simp
  omega
 rw [e3,Bool.and_comm]
theorem cnt_same {x:List Opn} (hR:Reg x) {o:Opn} (ho:o∈x) {d:Int} (h:counts o d=false):cnt (lessP x o.source) d nb=cnt x d nb∧fnd x d o.source=none:=by
 refine ⟨?_,?_⟩
 ·rw [cnt_nb,cnt_nb]
  unfold lessP
  rw [List.filter_filter]
  refine List.filter_congr fun y hy=>?_
  by_cases e:y.source=o.source
  ·have:y=o:=hR.vc.inj hy ho (by unfold src;rw [e])
   subst this
   rw [h];rfl
  ·rw [beq_false_of_ne e];exact Bool.and_true _
 ·unfold fnd
  rw [List.find?_eq_none]
  intro y hy e
  rw [cnt_nb] at hy
  obtain ⟨h1,h2⟩:=List.mem_filter.1 hy
  have:y=o:=hR.vc.inj h1 ho (by unfold src;rw [show y.source=o.source by simpa using e])
  subst this
  rw [h] at h2;cases h2
theorem few_less {x:List Opn} (hR:Reg x) {o:Opn} (ho:o∈x) {d:Int} (h:counts o d=true):o∈cnt x d nb∧lowN (edg (cnt (lessP x o.source) d nb))≤lowN (edg (cnt x d nb))∧lowN (edg (cnt x d nb))≤lowN (edg (cnt (lessP x o.source) d nb))+1 ∧
  (lowN (edg (cnt x d nb))=lowN (edg (cnt (lessP x o.source) d nb))+1 ↔ truI (cnt x d nb) o≠1):=by
 have hV:=hR.cnt d nb
 have hn:(cnt x d nb).length≤60:=Vc.len hR rfl
 have ho2:o∈cnt x d nb:=by rw [cnt_nb];exact List.mem_filter.2 ⟨ho,h⟩
 have hl:=lowN_ok hV hn
 have hk:=less_low hV hn [src o]
 obtain ⟨g1,_⟩:=low_less hl hk (by simp)
 rw [cnt_less hR ho]
 refine ⟨ho2,?_,g1,?_⟩
 ·obtain ⟨C,c1,c2⟩:=hl.some
  have:=hk.all C fun f y hE=>c1 f y hE.1
  omega
 ·have hm:may (cnt x d nb) [src o] ↔ lowN (edg (cnt x d nb))=lowN (edg (lessC (cnt x d nb) [src o]))+1:=by
   unfold may
   rw [List.length_singleton]
   omega
  rw [←hm]
  unfold truI
  by_cases c:may (cnt x d nb) [src o]
  ·rw [if_pos c]
   by_cases c2:may (cnt x d nb) (near (cnt x d nb) o)
   ·rw [if_pos c2];exact ⟨fun _=>by decide,fun _=>c⟩
   ·rw [if_neg c2];exact ⟨fun _=>by decide,fun _=>c⟩
  ·rw [if_neg c];exact ⟨fun h=>absurd h c,fun h=>absurd rfl h⟩
end Go.Proofs.YtbieflpgjmgaiaaGreat
/- Walks: With of the program; SameOpenings. -/
set_option maxRecDepth 100000
namespace Go.Proofs.YtbieflpgjmgaiaaGreat
variable {r:Rm}
theorem ins_slot {l:List Opn} {o:Opn} {h:Nat→List PV} (h0:h 0=eOpn o):AImp (.p (.lst 45 false (l.length+1) (insF (fO l) h (posN l o.source)))) (.p (eOpns false (insO l o))):=by
 show AImp _ (.p (.lst 45 false (insO l o).length _))
 rw [insO_len]
 exact AImp.lst fun k _=>insO_cell h0 k
set_option maxHeartbeats 4000000 in
theorem With_ok {b:Bool} {l:List Opn} {o:Opn} (hz:SzsW l) (ho:SzW o):VP (sE r) 43 [.p (eOpns b l),.agg ((eOpn o).map .p)] (.tup [.p (wiP l o),iv (wiE l o)]):=by
 have hc:=check_ok (r:=r) (b:=b) hz
 refine VP.of (fn:=Tryz.f43) tb_ok (wk_ok rfl) (by kernel_rfl) rfl rfl rfl ?_
 refine VSt.go tb_ok false [] 200 rfl AllP.n ?_
 refine VSt.viewO (Vw.freezeC 0 (eOpn o) rfl rfl) ?_
 rcases ckReg_or l with ⟨hR,e⟩ | ⟨hR,e⟩
 rotate_left
 ·rw [e] at hc
  obtain ⟨e1,e2⟩:=wi_reg (l:=l) (o:=o) (by rw [e];decide)
  rw [e1,e2]
  refine VSt.pc rfl rfl rfl rfl rfl rfl rfl rfl (hc) ?_
  refine VSt.go tb_ok false [] 200 rfl AllP.n ?_
  refine VSt.cond rfl (fun _=>?_) (fun h=>absurd h (by decide))
  refine VSt.go tb_ok false [5] 200 rfl AllP.n ?_
  refine VSt.putO 4 (.p (eOpns true [])) rfl AImp.nil ?_
  refine VSt.go tb_ok false [] 200 rfl AllP.n ?_
  exact EndsP.mk rfl rfl rfl rfl
 rw [e] at hc
 have hl:=hR.len
 refine VSt.pc rfl rfl rfl rfl rfl rfl rfl rfl (hc) ?_
 refine VSt.go tb_ok false [] 200 rfl AllP.n ?_
 refine VSt.cond rfl (fun h=>absurd h (by decide)) (fun _=>?_)
 refine VSt.go tb_ok false [] 200 rfl AllP.n ?_
 refine VSt.pc rfl rfl rfl rfl rfl rfl rfl rfl ((find_ok (b:=b) (s:=o.source) hR)) ?_
 refine VSt.go tb_ok false [] 200 rfl AllP.n ?_
 by_cases hO:OkO o
 rotate_left
 ·have h1:=ckO_ok (r:=r) ho
  rw [ckO_bad hO] at h1
  obtain ⟨e1,e2⟩:=wi_opn (l:=l) (o:=o) e (fun h=>by rw [ckO_bad hO] at h;exact absurd h.1 (by decide))
  rw [e1,e2]
  refine VSt.pc rfl rfl rfl rfl rfl rfl rfl rfl (h1) ?_
  refine VSt.go tb_ok false [] 200 rfl AllP.n ?_
  refine VSt.splitO 30 rfl (fun g1=>?_) (fun g1=>?_)
  ·refine VSt.go tb_ok false [5] 200 rfl AllP.n ?_
   refine VSt.putO 4 (.p (eOpns true [])) rfl AImp.nil ?_
   refine VSt.go tb_ok false [] 200 rfl AllP.n ?_
   exact EndsP.mk rfl rfl rfl rfl
  ·exact absurd g1 (by decide)
 have h1:=ckO_ok (r:=r) ho
 rw [ckO_good hO] at h1
 refine VSt.pc rfl rfl rfl rfl rfl rfl rfl rfl (h1) ?_
 refine VSt.go tb_ok false [] 200 rfl AllP.n ?_
 refine VSt.splitO 30 rfl (fun g1=>?_) (fun g1=>?_)
 ·exact absurd g1 (by decide)
 refine VSt.go tb_ok false [] 200 rfl AllP.n ?_
 refine VSt.cond rfl (fun hh=>?_) (fun hh=>?_)
 ·have hh:hasS l o.source=true:=hh
  obtain ⟨e1,e2⟩:=wi_opn (l:=l) (o:=o) e (fun h=>by rw [hh] at h;exact absurd h.2 (by decide))
  rw [e1,e2]
  refine VSt.go tb_ok false [5] 200 rfl AllP.n ?_
  refine VSt.putO 4 (.p (eOpns true [])) rfl AImp.nil ?_
  refine VSt.go tb_ok false [] 200 rfl AllP.n ?_
  exact EndsP.mk rfl rfl rfl rfl
 have hh:hasS l o.source=false:=hh
 have hA2:ckO o=0∧hasS l o.source=false:=⟨ckO_good hO,hh⟩
 refine VSt.go tb_ok false [] 200 rfl AllP.n ?_
 refine VSt.cond rfl (fun h3=>?_) (fun h3=>?_)
 ·have h3:l.length=60:=by
   have h3:(Int.ofNat l.length==60)=true:=h3
   have:=eq_of_beq h3
   simp only [Int.ofNat_eq_natCast] at this
   omega
  obtain ⟨e1,e2⟩:=wi_long e hA2 h3
  rw [e1,e2]
  refine VSt.go tb_ok false [5] 200 rfl AllP.n ?_
  refine VSt.putO 4 (.p (eOpns true [])) rfl AImp.nil ?_
  refine VSt.go tb_ok false [] 200 rfl AllP.n ?_
  exact EndsP.mk rfl rfl rfl rfl
 have h3:¬ l.length=60:=fun e=>by
  have h3:(Int.ofNat l.length==60)=false:=h3
  rw [e] at h3
  exact absurd h3 (by decide)
 have hi:=posN_le l o.source
 refine VSt.go tb_ok false [] 200 rfl AllP.n ?_
 refine VSt.ccD [] rfl rfl rfl rfl rfl rfl rfl rfl rfl rfl rfl rfl (copied_ok (b:=b) hR.szs) ?_
 rintro a L' ⟨rfl,rfl⟩
 refine VSt.go tb_ok false [] 200 rfl AllP.n ?_
 refine VSt.pcD rfl rfl rfl rfl rfl rfl rfl rfl ((copyOne_ok (o:=o) hO.sz)) ?_
 refine VSt.go tb_ok true [43] 200 rfl AllP.n ?_
 refine VSt.ccD [(0,1),(1,2)] rfl rfl rfl rfl rfl rfl rfl rfl rfl rfl rfl rfl (VC.ins (n:=l.length) (i:=posN l o.source) rfl rfl rfl (by decide) (by omega) hi) ?_
 rintro a L' ⟨rfl,rfl⟩
 refine VSt.go tb_ok false [] 200 rfl AllP.n ?_
 refine VSt.viewO (Vw.kp [10,44] [(0,5)] rfl) ?_
 refine VSt.viewO (Vw.freezeA 0 rfl rfl ⟨Nat.le_refl _,rfl,Nat.le_refl _,rfl⟩) ?_
 refine VSt.putO 10 (.p (eOpns false (insO l o))) rfl (ins_slot rfl) ?_
 refine VSt.putO 44 (.p (eOpns false (insO l o))) rfl (ins_slot rfl) ?_
 have hcI:=check_ok (r:=r) (b:=false) (insO_szw hR hO)
 rcases ckReg_or (insO l o) with ⟨_,e5⟩ | ⟨_,e5⟩
 ·obtain ⟨e1,e2⟩:=wi_good e hA2 h3 e5
  rw [e1,e2]
  rw [e5] at hcI
  refine VSt.pc rfl rfl rfl rfl rfl rfl rfl rfl (hcI) ?_
  refine VSt.go tb_ok false [] 200 rfl AllP.n ?_
  refine VSt.cond rfl (fun h=>absurd h (by decide)) (fun _=>?_)
  refine VSt.go tb_ok false [] 200 rfl AllP.n ?_
  exact EndsP.mk rfl rfl rfl rfl
 ·obtain ⟨e1,e2⟩:=wi_bad e hA2 h3 (by rw [e5];decide)
  rw [e1,e2]
  rw [e5] at hcI
  refine VSt.pc rfl rfl rfl rfl rfl rfl rfl rfl (hcI) ?_
  refine VSt.go tb_ok false [] 200 rfl AllP.n ?_
  refine VSt.cond rfl (fun _=>?_) (fun h=>absurd h (by decide))
  refine VSt.go tb_ok false [5] 200 rfl AllP.n ?_
  refine VSt.putO 4 (.p (eOpns true [])) rfl AImp.nil ?_
  refine VSt.go tb_ok false [] 200 rfl AllP.n ?_
  exact EndsP.mk rfl rfl rfl rfl
end Go.Proofs.YtbieflpgjmgaiaaGreat
/- Walks: Without and Dates of both sides, whatever the openings; SameOpenings. -/
set_option maxRecDepth 100000
namespace Go.Proofs.YtbieflpgjmgaiaaGreat
variable {r:Rm}
def eOpnF (i j:Bool) (o:Opn):List PV:=[.int .i64 o.source,.int .i64 o.register,.int .i64 o.day,.int .i64 o.through,.int .i64 o.lawful,eInts i o.inn,eInts j o.out,.int .i64 o.known,.int .i64 o.until_]
set_option maxHeartbeats 4000000 in
theorem sameO_ok {b b2:Bool} {l:List Opn} {i j:Nat→Bool} (hn:l.length≤1000) (h8:∀ k,k<l.length→(nth l k).inn.length≤1000∧(nth l k).out.length≤1000) :
  VP (sE r) 44 [.p (eOpns b l),.p (.lst 45 b2 l.length fun k=>eOpnF (i k) (j k) (nth l k))] (bv true):=by
 refine VP.of (fn:=Tryz.f44) tb_ok (wk_ok rfl) (by kernel_rfl) rfl rfl rfl ?_
 refine VSt.go tb_ok false [] 200 rfl AllP.n ?_
 refine VSt.loopT (ti:=6) l.length [0,1] (fun _=>[(5,bv true)]) (fun _=>[]) (fun _=>True) rfl rfl (u0_cons rfl (AImp.of_eq (by rw [show (Int.ofNat l.length==Int.ofNat l.length)=true from beq_self_eq_true _])) u0_nil) trivial trivial (fun k hk _=>?_)
 refine VSt.go tb_ok false [] 200 rfl AllP.n ?_
 refine VSt.splitO 20 rfl (fun h=>?_) (fun h=>?_)
 ·have h:=nlt h
  obtain ⟨g1,g2⟩:=h8 k h
  refine VSt.go tb_ok false [] 200 rfl AllP.n ?_
  refine VSt.cond rfl (fun _=>?_) (fun g=>absurd g (by decide))
  refine VSt.go tb_ok false [] 200 rfl (AllP.c ‹_› (AllP.c rfl (AllP.c ‹_› (AllP.c rfl AllP.n)))) ?_
  refine VSt.pc rfl rfl rfl rfl rfl rfl rfl rfl ((same_ok (b:=(nth l k).inB) (b2:=i k) (l:=(nth l k).inn) g1)) ?_
  refine VSt.go tb_ok false [] 200 rfl AllP.n ?_
  refine VSt.pc rfl rfl rfl rfl rfl rfl rfl rfl ((same_ok (b:=(nth l k).outB) (b2:=j k) (l:=(nth l k).out) g2)) ?_
  refine VSt.go tb_ok false [] 200 rfl AllP.n ?_
  refine VSt.splitO 44 rfl (fun q=>?_) (fun q=>?_)
  rotate_left
  ·exact absurd q (by decide)
  refine VSt.go tb_ok false [] 200 rfl AllP.n ?_
  refine VSt.splitO 47 rfl (fun q=>?_) (fun q=>?_)
  rotate_left
  ·exact absurd q (by decide)
  refine VSt.go tb_ok false [53] 200 rfl AllP.n ?_
  refine VSt.putO 52 (bv true) rfl (AImp.of_eq (by rw [beq_self_eq_true])) ?_
  refine VSt.go tb_ok false [] 200 rfl AllP.n ?_
  refine VSt.splitO 54 rfl (fun q=>?_) (fun q=>?_)
  rotate_left
  ·exact absurd q (by decide)
  refine VSt.go tb_ok false [60] 200 rfl AllP.n ?_
  refine VSt.putO 59 (bv true) rfl (AImp.of_eq (by rw [beq_self_eq_true])) ?_
  refine VSt.go tb_ok false [] 200 rfl AllP.n ?_
  refine VSt.splitO 61 rfl (fun q=>?_) (fun q=>?_)
  rotate_left
  ·exact absurd q (by decide)
  refine VSt.go tb_ok false [67] 200 rfl AllP.n ?_
  refine VSt.putO 66 (bv true) rfl (AImp.of_eq (by rw [beq_self_eq_true])) ?_
  refine VSt.go tb_ok false [] 200 rfl AllP.n ?_
  refine VSt.splitO 68 rfl (fun q=>?_) (fun q=>?_)
  rotate_left
  ·exact absurd q (by decide)
  refine VSt.go tb_ok false [74] 200 rfl AllP.n ?_
  refine VSt.putO 73 (bv true) rfl (AImp.of_eq (by rw [beq_self_eq_true])) ?_
  refine VSt.go tb_ok false [] 200 rfl AllP.n ?_
  refine VSt.splitO 75 rfl (fun q=>?_) (fun q=>?_)
  rotate_left
  ·exact absurd q (by decide)
  refine VSt.go tb_ok false [81] 200 rfl AllP.n ?_
  refine VSt.putO 80 (bv true) rfl (AImp.of_eq (by rw [beq_self_eq_true])) ?_
  refine VSt.go tb_ok false [] 200 rfl AllP.n ?_
  refine VSt.splitO 82 rfl (fun q=>?_) (fun q=>?_)
  rotate_left
  ·exact absurd q (by decide)
  refine VSt.go tb_ok false [88] 200 rfl AllP.n ?_
  refine VSt.putO 87 (bv true) rfl (AImp.of_eq (by rw [beq_self_eq_true])) ?_
  refine VSt.go tb_ok false [] 200 rfl AllP.n ?_
  refine VSt.splitO 89 rfl (fun q=>?_) (fun q=>?_)
  rotate_left
  ·exact absurd q (by decide)
  refine VSt.go tb_ok false [95] 200 rfl AllP.n ?_
  refine VSt.putO 94 (bv true) rfl (AImp.of_eq (by rw [beq_self_eq_true])) ?_
  refine VSt.go tb_ok false [] 200 rfl (AllP.c (by unfold inR;(try simp only [Int.ofNat_eq_natCast]);omega) AllP.n) ?_
  refine ⟨h,?_,trivial⟩
  (refine Vw.drop (by repeat (first | exact wf_nil | refine wf_back rfl rfl rfl ?_ | refine wf_cons rfl ‹_› (ren_only _ ‹_›) ?_)))
 ·have h:k=l.length:=by have:=nge h;omega
  refine VSt.go tb_ok false [] 200 rfl AllP.n ?_
  exact EndsP.mk rfl rfl rfl rfl
theorem sameI_ok {b b2:Bool} {l:List Opn} (hn:l.length≤1000) (h8:∀ k,k<l.length→(nth l k).inn.length≤1000∧(nth l k).out.length≤1000) :
  VP (sE r) 44 [.p (eOpns b l),.p (eOpns b2 l)] (bv true) :=
 VP.imp (sameO_ok (b2:=b2) (i:=fun k=>(nth l k).inB) (j:=fun k=>(nth l k).outB) hn h8) ⟨AImp.refl _,AImp.refl _,trivial⟩
theorem Reg.in8 {l:List Opn} (h:Reg l):∀ k,k<l.length→(nth l k).inn.length≤1000∧(nth l k).out.length≤1000:=fun k hk=>by
 have:=namedB_len (h.ok k hk).inn
 have:=namedB_len (h.ok k hk).out
 omega
end Go.Proofs.YtbieflpgjmgaiaaGreat
