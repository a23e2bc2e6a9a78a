/- The program's ChestKnown returns true for all numbers without an exception and without changing its arguments: a part of the proof. -/
import Derived.Test.YtbieflpgjmgaiaaGreatVv
import Derived.Test.YtbieflpgjmgaiaaGreatVu
import Derived.Test.YtbieflpgjmgaiaaGreatVw
import Derived.Test.YtbieflpgjmgaiaaGreatVt
set_option linter.all false
/- Walks: Dates, Without, Has, counts. -/
set_option maxRecDepth 100000
namespace Go.Proofs.YtbieflpgjmgaiaaGreat
open Kuhn
variable {r:Rm}
theorem lawCounts_ok (o:Opn) (d:Int):VP (sE r) 28 [.agg ((eOpn o).map .p),iv d] (bv (counts o d)):=by
 refine VP.of (fn:=Tryz.f28) tb_ok (wk_ok rfl) (by kernel_rfl) rfl rfl rfl ?_
 have two:∀ x:Bool,decide (o.known≤d)=x→counts o d=(x&&(o.until_==0||decide (d<o.until_))):=fun x h=>by unfold counts;rw [h]
 refine VSt.go tb_ok false [] 200 rfl AllP.n ?_
 refine VSt.splitO 9 rfl (fun h1=>?_) (fun h1=>?_)
 ·have e:=two true h1
  refine VSt.go tb_ok false [] 200 rfl AllP.n ?_
  refine VSt.splitO 13 rfl (fun h2=>?_) (fun h2=>?_)
  ·refine VSt.go tb_ok false [] 200 rfl AllP.n ?_
   refine EndsP.mk rfl rfl rfl ?_
   show bv _=bv _
   rw [e,h2];rfl
  ·refine VSt.go tb_ok false [] 200 rfl AllP.n ?_
   refine EndsP.mk rfl rfl rfl ?_
   show bv _=bv _
   rw [e,h2];rfl
 ·have e:=two false h1
  refine VSt.go tb_ok false [] 200 rfl AllP.n ?_
  refine EndsP.mk rfl rfl rfl ?_
  show bv _=bv _
  rw [e];rfl
theorem Has_ok {b:Bool} {l:List Int} {x:Int} (hn:l.length≤1000):VP (sE r) 31 [.p (eInts b l),iv x] (bv (hasI l x)):=by
 refine VP.of (fn:=Tryz.f31) tb_ok (wk_ok rfl) (by kernel_rfl) rfl rfl rfl ?_
 refine VSt.go tb_ok false [] 200 rfl AllP.n ?_
 refine VSt.loopT (ti:=5) l.length [0,1] (fun _=>[]) (fun _=>[]) (fun k=>∀ i,i<k→(l.getD i 0==x)=false) rfl rfl u0_nil trivial (fun i hi=>absurd hi (Nat.not_lt_zero i)) (fun k hk hp=>?_)
 refine VSt.go tb_ok false [] 200 rfl AllP.n ?_
 refine VSt.cond rfl (fun h=>?_) (fun h=>?_)
 ·have h:=nlt h
  refine VSt.go tb_ok false [] 200 rfl (AllP.c ‹_› (AllP.c rfl AllP.n)) ?_
  refine VSt.cond rfl (fun h1=>?_) (fun h1=>?_)
  ·have h1:(l.getD k 0==x)=true:=h1
   refine VSt.go tb_ok false [] 200 rfl AllP.n ?_
   refine EndsP.mk rfl rfl rfl ?_
   have e:hasI l x=true:=hasI_iff.2 (by rw [←(beq_iff_eq.1 h1:l.getD k 0=x)];exact getD_mem h)
   rw [e];rfl
  ·have h1:(l.getD k 0==x)=false:=h1
   refine VSt.go tb_ok false [] 200 rfl (AllP.c (by unfold inR;(try simp only [Int.ofNat_eq_natCast]);omega) AllP.n) ?_
   refine ⟨h,by (refine Vw.drop (by repeat (first | exact wf_nil | refine wf_back rfl rfl rfl ?_ | refine wf_cons rfl ‹_› (ren_only _ ‹_›) ?_))),fun i hi=>?_⟩
   by_cases e:i=k
   ·subst e;exact h1
   ·exact hp i (by omega)
 ·have h:k=l.length:=by have:=nge h;omega
  subst h
  refine VSt.go tb_ok false [] 200 rfl AllP.n ?_
  refine EndsP.mk rfl rfl rfl ?_
  have e:hasI l x=false:=by
   rw [←Bool.not_eq_true]
   intro hm
   obtain ⟨i,hi,e⟩:=mem_getD (d:=0) (hasI_iff.1 hm)
   have:=hp i hi
   rw [e,beq_self_eq_true] at this
   cases this
  rw [e];rfl
theorem Without_ok {b:Bool} {l:List Opn} {s:Int} (hR:Reg l):VP (sE r) 30 [.p (eOpns b l),iv s] (.tup [.p (woP l s),iv (bif hasS l s then 0 else 3)]):=by
 have hz:=hR.szs
 have hw:SzsW l:=⟨by have:=hz.len;omega,fun k hk=>⟨by have:=(hz.each k hk).inn;omega,by have:=(hz.each k hk).out;omega⟩⟩
 have hc:=check_ok (r:=r) (b:=b) hw
 have e:ckReg l=0:=if_pos hR
 rw [e] at hc
 have hwo:=without_ok (r:=r) (b:=b) (s:=s) hR
 refine VP.of (fn:=Tryz.f30) tb_ok (wk_ok rfl) (by kernel_rfl) rfl rfl rfl ?_
 refine VSt.go tb_ok false [] 200 rfl AllP.n ?_
 refine VSt.pc rfl rfl rfl rfl rfl rfl rfl rfl (hc) ?_
 refine VSt.go tb_ok false [] 200 rfl AllP.n ?_
 refine VSt.cond rfl (fun h=>absurd h (by decide)) (fun _=>?_)
 refine VSt.go tb_ok false [] 200 rfl AllP.n ?_
 cases hs:hasS l s with
 | false =>
  have ew:woP l s=eOpns true []:=by unfold woP;rw [hs];rfl
  rw [hs,ew] at hwo
  rw [ew]
  refine VSt.pc rfl rfl rfl rfl rfl rfl rfl rfl (hwo) ?_
  refine VSt.go tb_ok false [] 200 rfl AllP.n ?_
  refine VSt.cond rfl (fun _=>?_) (fun h=>absurd h (by decide))
  refine VSt.go tb_ok false [5] 200 rfl AllP.n ?_
  refine VSt.putO 4 (.p (eOpns true [])) rfl AImp.nil ?_
  refine VSt.go tb_ok false [] 200 rfl AllP.n ?_
  exact EndsP.mk rfl rfl rfl rfl
 | true =>
  rw [hs] at hwo
  refine VSt.pc rfl rfl rfl rfl rfl rfl rfl rfl (hwo) ?_
  refine VSt.go tb_ok false [] 200 rfl AllP.n ?_
  refine VSt.cond rfl (fun h=>absurd h (by decide)) (fun _=>?_)
  refine VSt.go tb_ok false [] 200 rfl AllP.n ?_
  exact EndsP.mk rfl rfl rfl rfl
def datO (o:Opn):List Int:=o.known::bif o.until_==0 then [] else [o.until_]
def datK (l:List Opn) (k:Nat):List Int:=(l.take k).flatMap datO
theorem datK_succ {l:List Opn} {k:Nat} (h:k<l.length):datK l (k+1)=datK l k++datO (nth l k):=by
 unfold datK
 rw [take_nth h,List.flatMap_append]
 simp
theorem datO_len (o:Opn):(datO o).length≤2:=by
 unfold datO
 cases (o.until_==0)
 ·exact Nat.le_refl 2
 ·exact Nat.le_succ 1
theorem datK_len {l:List Opn} (hl:l.length≤60) (k:Nat):(datK l k).length≤120:=by
 unfold datK
 have h1:=flat_le (l:=l.take k) (f:=datO) (m:=2) fun o _=>datO_len o
 have h2:(l.take k).length≤60:=Nat.le_trans (List.length_take_le' ..) hl
 omega
def datL (l:List Opn):List Int:=datK l l.length
set_option maxHeartbeats 4000000 in
theorem Dates_ok {b:Bool} {l:List Opn} (hR:Reg l):VP (sE r) 29 [.p (eOpns b l)] (.tup [.p (eL (setL (datL l))),iv 0]):=by
 have hz:=hR.szs
 have hl:=hR.len
 have hw:SzsW l:=⟨by have:=hz.len;omega,fun k hk=>⟨by have:=(hz.each k hk).inn;omega,by have:=(hz.each k hk).out;omega⟩⟩
 have hc:=check_ok (r:=r) (b:=b) hw
 have e:ckReg l=0:=if_pos hR
 rw [e] at hc
 refine VP.of (fn:=Tryz.f29) tb_ok (wk_ok rfl) (by kernel_rfl) rfl rfl rfl ?_
 refine VSt.go tb_ok false [] 200 rfl AllP.n ?_
 refine VSt.pc rfl rfl rfl rfl rfl rfl rfl rfl (hc) ?_
 refine VSt.go tb_ok false [] 200 rfl AllP.n ?_
 refine VSt.cond rfl (fun h=>absurd h (by decide)) (fun _=>?_)
 refine VSt.go tb_ok false [] 200 rfl AllP.n ?_
 refine VSt.viewC (Vw.adopt 0 1 (fL []) 3 rfl) ?_
 refine VSt.rangeT tb_ok l.length (by omega) [13] (fun k=>[(5,.acc true 0 1 (datK l k).length)]) (fun k=>[(0,.acc (datK l k).length 1 (fL (datK l k)) 3)]) (fun _=>True) rfl rfl rfl (fun _=>rfl) rfl rfl (u0_cons rfl AImp.nilAcc u0_nil) (LImp.refl _) trivial (fun k hk _=>?_) (fun _=>?_)
 ·have hlen:=datK_len hl k
  have e:=datK_succ hk
  have hA1:∀ (A:List Int) (z:Int),(A++[z]).length=A.length+1:=fun A z=>by rw [List.length_append];rfl
  generalize datK l k=A at *
  refine VSt.go tb_ok false [7] 200 rfl (AllP.c ‹_› (AllP.c rfl AllP.n)) ?_
  refine VSt.aside (eOpn (nth l k)) tb_ok rfl rfl rfl rfl rfl rfl rfl rfl rfl rfl rfl ?_
  refine VSt.go tb_ok false [] 200 rfl (AllP.c (by omega) (AllP.c (by omega) (AllP.c (fun q hq=>match q,hq with | 0,_=>rfl) (AllP.c rfl (AllP.c rfl (AllP.c rfl AllP.n)))))) ?_
  refine VSt.viewC (Wk.vw (ps:=[(0,1)]) (F0:=[(7,.p (.fp (eOpn (nth l k)) 0)),(13,.p (eOpns b l)),(14,nv l.length),(15,nv k),(26,bv (!((nth l k).until_==0))),(5,.acc true 0 1 (A++[(nth l k).known]).length)]) (L0:=[(0,.acc (A++[(nth l k).known]).length 1 (fL (A++[(nth l k).known])) 3)]) ⟨rfl,rfl,(by repeat (first | exact wf_nil | refine wf_back rfl rfl rfl ?_ | refine wf_imp rfl rfl (AImp.acc (hA1 A (nth l k).known).symm (fun _=>rfl)) ?_)),_,rfl,⟨rfl,BImp.acc (hA1 A (nth l k).known).symm (fun q hq=>app_int A (nth l k).known q hq),trivial⟩⟩) ?_
  have hA2:=hA1 A (nth l k).known
  refine VSt.cond rfl (fun h3=>?_) (fun h3=>?_)
  ·have h3:((nth l k).until_==0)=false:=nt h3
   have e2:datK l (k+1)=A++[(nth l k).known]++[(nth l k).until_]:=by rw [e];unfold datO;rw [h3,List.append_assoc];rfl
   refine VSt.go tb_ok false [] 200 rfl (AllP.c (by omega) (AllP.c (by omega) (AllP.c (fun q hq=>match q,hq with | 0,_=>rfl) (AllP.c rfl (AllP.c rfl (AllP.c rfl AllP.n)))))) ?_
   refine ⟨?_,trivial⟩
   dsimp only
   rw [e2]
   exact Wk.vw (ps:=[(0,1)]) ⟨rfl,rfl,(by repeat (first | exact wf_nil | refine wf_back rfl rfl rfl ?_ | refine wf_imp rfl rfl AImp.litC ?_ | refine wf_imp rfl rfl (AImp.acc (hA1 (A++[(nth l k).known]) (nth l k).until_).symm (fun _=>rfl)) ?_)),_,rfl,⟨rfl,BImp.acc (hA1 (A++[(nth l k).known]) (nth l k).until_).symm (fun q hq=>app_int (A++[(nth l k).known]) (nth l k).until_ q hq),trivial⟩⟩
  ·have h3:((nth l k).until_==0)=true:=nf h3
   have e2:datK l (k+1)=A++[(nth l k).known]:=by rw [e];unfold datO;rw [h3];rfl
   refine VSt.go tb_ok false [] 200 rfl AllP.n ?_
   refine ⟨?_,trivial⟩
   dsimp only
   rw [e2]
   refine Wk.vw (ps:=[(0,0)]) ⟨rfl,rfl,(by repeat (first | exact wf_nil | refine wf_back rfl rfl rfl ?_)),_,rfl,((LImp.refl _))⟩
 ·have hlen:=datK_len hl l.length
  change (datL l).length≤120 at hlen
  rw [show datK l l.length=datL l from rfl]
  refine VSt.go tb_ok false [] 200 rfl AllP.n ?_
  refine VSt.cc [(0,0)] rfl rfl rfl rfl rfl rfl rfl rfl rfl rfl rfl (VC.sortA rfl (hk_ok rfl) (p:=fun k=>(datL l).getD k 0) (by omega)) ?_
  rintro a L' ⟨rfl,rfl⟩
  refine VSt.go tb_ok false [] 200 rfl AllP.n ?_
  refine VSt.viewO (Vw.kp [35] [(0,0)] rfl) ?_
  by_cases hZ:(datL l).length=0
  ·refine VSt.viewO (Vw.freezeA 0 rfl rfl ⟨Nat.le_refl _,rfl⟩) ?_
   refine VSt.putO 35 (.p (.lst 3 true 0 fun _=>[])) rfl (by rw [hZ];exact AImp.lst fun k hk=>absurd hk (Nat.not_lt_zero k)) ?_
   refine VSt.pc rfl rfl rfl rfl rfl rfl rfl rfl ((compact0_ok (fl:=true) (f:=fun _=>[]))) ?_
   refine VSt.putO 36 (.p (eL (setL (datL l)))) rfl (by rw [List.length_eq_zero_iff.1 hZ];exact AImp.lst fun k hk=>absurd hk (Nat.not_lt_zero k)) ?_
   refine VSt.go tb_ok false [] 200 rfl AllP.n ?_
   exact EndsP.mk rfl rfl rfl rfl
  ·have hpos:0<(datL l).length:=by omega
   refine VSt.viewO (Wk.vw (ps:=[(0,0)]) (F0:=[(35,.sl 0 1 0 (datL l).length (datL l).length 0)]) (L0:=[(0,.arr (datL l).length 1 (fInts fun k=>(srt (datL l).length fun k=>(datL l).getD k 0).getD k 0) 3)]) ⟨rfl,rfl,(by repeat (first | exact wf_nil | refine wf_back rfl rfl rfl ?_ | refine wf_imp rfl rfl (AImp.accSl hpos rfl rfl) ?_)),_,rfl,⟨rfl,BImp.accArr hpos rfl (fun _ _=>rfl),trivial⟩⟩) ?_
   refine VSt.cc [(0,0)] rfl rfl rfl rfl rfl rfl rfl rfl rfl rfl rfl (CompactI_ok hpos (by omega)) ?_
   rintro a L' ⟨g,rfl,rfl,hg⟩
   refine VSt.viewO (Vw.kp [36] [(0,0)] rfl) ?_
   refine VSt.viewO (Vw.freeze 0 rfl rfl ⟨by rw [Nat.zero_add];exact setL_len _,setL_len _,rfl⟩) ?_
   refine VSt.putO 36 (.p (eL (setL (datL l)))) rfl (by unfold eL;rw [setL_pos hpos];exact AImp.lst fun k hk=>by rw [Nat.zero_add];show [PV.int .i64 (g k)]=_;rw [show g k=_ from hg k hk];rfl) ?_
   refine VSt.go tb_ok false [] 200 rfl AllP.n ?_
   exact EndsP.mk rfl rfl rfl rfl
end Go.Proofs.YtbieflpgjmgaiaaGreat
/- What is known later does not count; what counts when one is gone. -/
set_option maxRecDepth 100000
namespace Go.Proofs.YtbieflpgjmgaiaaGreat
open Kuhn
variable {r:Rm}
theorem Reg.filterP {l:List Opn} (h:Reg l) (p:Opn→Bool):Reg (l.filter p) :=
 Reg.of (Nat.le_trans (List.length_filter_le _ _) h.len) (fun o ho=>h.vc.ok o (List.mem_filter.1 ho).1) (h.vc.rise.filter _) (h.hits.filter _)
theorem cnL_reg {l:List Opn} (h:Reg l) (d:Int):Reg (cnt l d nb):=h.filterP _
theorem cnt_cnt (l:List Opn) (d:Int):cnt (cnt l d nb) d nb=cnt l d nb:=by
 rw [cnt_nb (cnt l d nb),cnt_nb,List.filter_filter]
 congr 1;funext o
 exact Bool.and_self _
theorem insI_cnt {l l2:List Opn} {d d2 paper day:Int} (hR:Reg l) (hR2:Reg l2) (hp:wth paper 1 999=true) (e:cnt l2 d2 nb=cnt l d nb):insI l2 d2 paper day=insI l d paper day:=by
 rw [←insR_eq hR hp,←insR_eq hR2 hp,e]
theorem Reg.szw {l:List Opn} (h:Reg l):SzsW l:=⟨by have:=h.szs.len;omega,fun k hk=>⟨by have:=(h.szs.each k hk).inn;omega,by have:=(h.szs.each k hk).out;omega⟩⟩
theorem ins_good {b:Bool} {l:List Opn} {paper day d:Int} (hR:Reg l) (hp:wth paper 1 999=true) (h1:wth day 0 100000=true) (h2:wth d 0 100000=true):VP (sE r) 13 [.p (eOpns b l),iv paper,iv day,iv d] (.tup [iv (insI l d paper day),iv 0]):=by
 have h:=Inside_ok (r:=r) (b:=b) (paper:=paper) (day:=day) (d:=d) hR.szw
 have ea:ask2 l day d=0:=by rw [ask2_day hR,h1,h2];rfl
 have e1:insV l paper day d=insI l d paper day:=if_pos ⟨hR,hp,ea⟩
 have e2:insE l paper day d=0:=by unfold insE;rw [if_pos hR,if_pos hp,ea]
 rw [e1,e2] at h
 exact h
theorem tru_good {b:Bool} {l:List Opn} {d:Int} {o:Opn} (hR:Reg l) (h2:wth d 0 100000=true) (ho:o∈cnt l d nb):VP (sE r) 11 [.p (eOpns b l),iv o.source,iv d] (.tup [iv (truI (cnt l d nb) o),iv 0]):=by
 have h:=True_ok (r:=r) (b:=b) (s:=o.source) (d:=d) hR.szw
 have ea:askE l d=0:=by unfold askE;rw [if_pos hR,if_pos h2]
 have ef:=fnd_of hR ho
 have e1:truV l d o.source=truI (cnt l d nb) o:=by unfold truV;rw [if_pos ea,ef]
 have e2:truE l d o.source=0:=by unfold truE;rw [if_pos ea,ef];rfl
 rw [e1,e2] at h
 exact h
def lasK (L:List Int) (d:Int):Nat→Int
 | 0=> -1
 | k+1=>bif decide (L.getD k 0≤d) then L.getD k 0 else lasK L d k
theorem lasK_ok {L:List Int} {d:Int} (hr:L.Pairwise (· < ·)):∀ k,k≤L.length→(lasK L d k = -1∨(lasK L d k∈L∧lasK L d k≤d))∧∀ i,i<k→L.getD i 0≤d→L.getD i 0≤lasK L d k
 | 0,_=>⟨.inl rfl,fun i hi=>absurd hi (Nat.not_lt_zero i)⟩
 | k+1,h=>by
  obtain ⟨h1,h2⟩:=lasK_ok (d:=d) hr k (by omega)
  rw [lasK]
  by_cases h3:L.getD k 0≤d
  ·rw [decide_eq_true h3]
   refine ⟨.inr ⟨getD_mem (by omega),h3⟩,fun i hi _=>?_⟩
   show L.getD i 0≤L.getD k 0
   by_cases e:i=k
   ·subst e;exact Int.le_refl _
   ·have:=List.pairwise_iff_getElem.1 hr i k (by omega) (by omega) (by omega)
    rw [getD_get (show i<L.length by omega),getD_get (show k<L.length by omega)]
    exact Int.le_of_lt this
  ·rw [decide_eq_false h3]
   refine ⟨h1,fun i hi h4=>?_⟩
   by_cases e:i=k
   ·subst e;exact absurd h4 h3
   ·exact h2 i (by omega) h4
theorem dat_mem {l:List Opn} {x:Int}:x∈datL l ↔ ∃ o,o∈l∧(x=o.known∨(o.until_≠0∧x=o.until_)):=by
 unfold datL datK
 rw [List.take_length,List.mem_flatMap]
 constructor
 ·rintro ⟨o,ho,h⟩
  refine ⟨o,ho,?_⟩
  unfold datO at h
  rcases List.mem_cons.1 h with h | h
  ·exact .inl h
  ·cases e:(o.until_==0) with
   | true=>rw [e] at h;exact nomatch h
   | false=>rw [e] at h;exact .inr ⟨by simpa using e,List.mem_singleton.1 h⟩
 ·rintro ⟨o,ho,h⟩
  refine ⟨o,ho,?_⟩
  unfold datO
  rcases h with h | ⟨h1,h2⟩
  ·exact List.mem_cons.2 (.inl h)
  ·rw [beq_false_of_ne h1]
   exact List.mem_cons.2 (.inr (List.mem_singleton.2 h2))
def lasD (l:List Opn) (d:Int):Int:=lasK (setL (datL l)) d (setL (datL l)).length
theorem las_cnt {l:List Opn} {d:Int} (h0:¬ lasD l d<0):lasD l d≤d∧cnt l (lasD l d) nb=cnt l d nb:=by
 obtain ⟨h1,h2⟩:=lasK_ok (d:=d) (setL_rise (datL l)) (setL (datL l)).length (Nat.le_refl _)
 change lasD l d = -1∨(lasD l d∈setL (datL l)∧lasD l d≤d) at h1
 have hle:lasD l d≤d:=by rcases h1 with h1 | h1 <;> omega
 have up:∀ x,x∈datL l→x≤d→x≤lasD l d:=fun x hx hd=>by
  obtain ⟨i,hi,e⟩:=mem_getD (d:=0) (setL_mem.2 hx)
  rw [←e] at hd ⊢
  exact h2 i hi hd
 refine ⟨hle,?_⟩
 rw [cnt_nb,cnt_nb]
 refine List.filter_congr fun o ho=>?_
 have u1:=up o.known (dat_mem.2 ⟨o,ho,.inl rfl⟩)
 unfold counts
 have e1:decide (o.known≤lasD l d)=decide (o.known≤d):=by
  congr 1;exact propext ⟨fun h=>by omega,u1⟩
 rw [e1]
 congr 1
 by_cases hu:o.until_=0
 ·rw [hu];rfl
 ·have u2:=up o.until_ (dat_mem.2 ⟨o,ho,.inr ⟨hu,rfl⟩⟩)
  congr 1
  congr 1
  exact propext ⟨fun h=>by
   by_cases h5:o.until_≤d
   ·have:=u2 h5;omega
   ·omega,fun h=>by omega⟩
theorem mov_has {l:List Opn} {s d:Int} {y:Opn} (hR:Reg l) (hy:y∈cnt l d nb) (hs:y.source≠s):y∈cnt (lessP l s) d nb∧hasI (movL l s d) y.source = !(truI (cnt l d nb) y==truI (cnt (lessP l s) d nb) y):=by
 have hy2:y∈cnt (lessP l s) d nb:=by
  rw [cnt_nb] at hy ⊢
  obtain ⟨h1,h2⟩:=List.mem_filter.1 hy
  exact List.mem_filter.2 ⟨List.mem_filter.2 ⟨h1,by rw [beq_false_of_ne hs];rfl⟩,h2⟩
 refine ⟨hy2,?_⟩
 have hV:=(hR.lessP s).cnt d nb
 rw [Bool.eq_iff_iff,hasI_iff]
 unfold movL
 rw [List.mem_map]
 constructor
 ·rintro ⟨o,ho,e⟩
  obtain ⟨h1,h2⟩:=List.mem_filter.1 ho
  have:o=y:=hV.inj h1 hy2 (by unfold src;rw [e])
  subst this
  exact h2
 ·intro h
  exact ⟨y,List.mem_filter.2 ⟨hy2,h⟩,rfl⟩
theorem mov_none {l:List Opn} {s d:Int} (h:∀ o,o∈l→o.source=s→counts o d=false):movL l s d=[]:=by
 have e:cnt (lessP l s) d nb=cnt l d nb:=by
  rw [cnt_nb,cnt_nb]
  unfold lessP
  rw [List.filter_filter]
  refine List.filter_congr fun o ho=>?_
  by_cases hs:o.source=s
  ·rw [h o ho hs];rfl
  ·rw [beq_false_of_ne hs];exact Bool.and_true _
 unfold movL movP
 rw [e]
 have:(cnt l d nb).filter (fun o=>!(truI (cnt l d nb) o==truI (cnt l d nb) o))=[]:=by
  rw [List.filter_eq_nil_iff]
  intro o _
  rw [beq_self_eq_true]
  decide
 rw [this];rfl
theorem mov_good {b:Bool} {l:List Opn} {s d:Int} (hR:Reg l) (h2:wth d 0 100000=true) (hs:hasS l s=true):VP (sE r) 23 [.p (eOpns b l),iv s,iv d] (.tup [.p (eL (movL l s d)),iv 0]):=by
 have h:=Moved_ok (r:=r) (b:=b) (s:=s) (d:=d) hR.szw
 have ea:askE l d=0:=by unfold askE;rw [if_pos hR,if_pos h2]
 have e1:movV l s d=movL l s d:=if_pos ⟨ea,hs⟩
 have e2:movE l s d=0:=by unfold movE;rw [if_pos ea,if_pos hs]
 rw [e1,e2] at h
 exact h
end Go.Proofs.YtbieflpgjmgaiaaGreat
/- The law ChestKnown. -/
set_option maxRecDepth 100000
namespace Go.Proofs.YtbieflpgjmgaiaaGreat
open Kuhn
variable {r:Rm}
theorem bne_not {x:Int} {P:Prop} (h:(!(x==x))=true):P:=by rw [beq_self_eq_true] at h;cases h
set_option maxHeartbeats 8000000 in
theorem chestKnown_law {t:Tr (List Value×TypeId)} {b:Bool} {l:List Raw} {n0 n1 n2:Int} (hn:l.length<9223372036854775808) (hq:∀ k,k<l.length→inR (l.getD k default).a7):VP (sE (t,true)) 5 [.p (eRaws b l),.agg [iv n0,iv n1,iv n2]] (bv true):=by
 have hR:=made_reg l
 have hM:=Made_ok (r:=(t,true)) (b:=b) hn hq
 have hD:=Mod_ok (r:=(t,true)) (n:=n0) (m:=18) (by decide) (by decide)
 have hY:=Mod_ok (r:=(t,true)) (n:=n1) (m:=120) (by decide) (by decide)
 have hd0:=md_bd (n:=n0) (m:=18) (by decide)
 have hy0:=md_bd (n:=n1) (m:=120) (by decide)
 have hd:wth (md n0 18) 0 100000=true:=wth_iff.2 (by omega)
 have hy:wth (md n1 120) 0 100000=true:=wth_iff.2 (by omega)
 generalize made l=x at *
 generalize md n0 18=d at *
 generalize md n1 120=day at *
 have hz:=hR.szs
 have hxl:=hR.len
 have hRc:=cnL_reg hR d
 have hcl:(cnt x d nb).length≤60:=hRc.len
 have hDat:=Dates_ok (r:=(t,true)) (b:=x.isEmpty) hR
 have hLl:(setL (datL x)).length≤120:=Nat.le_trans (setL_len _) (datK_len hxl x.length)
 refine VP.of (fn:=Tryz.f5) tb_ok (wk_ok rfl) (by kernel_rfl) rfl rfl rfl ?_
 refine VSt.go tb_ok false [] 200 rfl AllP.n ?_
 refine VSt.pc rfl rfl rfl rfl rfl rfl rfl rfl ((VP.hook rfl)) ?_
 refine VSt.go tb_ok false [] 200 rfl AllP.n ?_
 refine VSt.pc rfl rfl rfl rfl rfl rfl rfl rfl (hM) ?_
 refine VSt.go tb_ok false [] 200 rfl (AllP.c (by show 0<_;omega) AllP.n) ?_
 refine VSt.pc rfl rfl rfl rfl rfl rfl rfl rfl (hD) ?_
 refine VSt.go tb_ok false [] 200 rfl (AllP.c (by show 1<_;omega) AllP.n) ?_
 refine VSt.pc rfl rfl rfl rfl rfl rfl rfl rfl (hY) ?_
 refine VSt.go tb_ok false [] 200 rfl AllP.n ?_
 refine VSt.viewC (Vw.adopt 1 9 (fO []) 45 rfl) ?_
 refine VSt.loopT (ti:=10) x.length [3,5,6,7,8] (fun k=>[(9,.acc true 1 9 (preL x (fun o=>counts o d) id k).length)]) (fun k=>[(1,.acc (preL x (fun o=>counts o d) id k).length 9 (fO (preL x (fun o=>counts o d) id k)) 45),(0,.cells [iv n0,iv n1,iv n2] 40)]) (fun _=>True) rfl rfl (u0_cons rfl AImp.nilAcc u0_nil) (LImp.refl _) trivial (fun k hk _=>?_)
 have hlen:=preL_len (l:=x) (p:=fun o=>counts o d) (f:=id) (k:=k)
 refine VSt.go tb_ok false [] 200 rfl AllP.n ?_
 refine VSt.cond rfl (fun h=>?_) (fun h=>?_)
 ·have h:=nlt h
  refine VSt.go tb_ok false [] 200 rfl (AllP.c ‹_› (AllP.c rfl AllP.n)) ?_
  refine VSt.pc rfl rfl rfl rfl rfl rfl rfl rfl ((lawCounts_ok (nth x k) d)) ?_
  refine VSt.go tb_ok false [] 200 rfl AllP.n ?_
  refine VSt.cond rfl (fun h2=>?_) (fun h2=>?_)
  ·have h2:counts (nth x k) d=true:=h2
   have e:=preL_t (p:=fun o=>counts o d) (f:=id) h h2
   have hN:=congrArg List.length e
   rw [List.length_append,List.length_singleton] at hN
   refine VSt.go tb_ok false [] 200 rfl (AllP.c ‹_› (AllP.c rfl (AllP.c (by omega) (AllP.c (by omega) (AllP.c (fun q hq=>match q,hq with | 0,_=>rfl) (AllP.c rfl (AllP.c rfl (AllP.c rfl (AllP.c (by unfold inR;(try simp only [Int.ofNat_eq_natCast]);omega) AllP.n))))))))) ?_
   refine ⟨h,?_,trivial⟩
   exact Wk.vw (ps:=[(1,2),(0,0)]) ⟨rfl,rfl,(by repeat (first | exact wf_nil | refine wf_back rfl rfl rfl ?_ | refine wf_imp rfl rfl (AImp.acc hN.symm (fun _=>rfl)) ?_)),_,rfl,⟨rfl,BImp.acc hN.symm (fun x hx=>by rw [e];exact app_opn _ _ _ rfl x hx),rfl,BImp.refl _,trivial⟩⟩
  ·have h2:counts (nth x k) d=false:=h2
   refine VSt.go tb_ok false [] 200 rfl (AllP.c (by unfold inR;(try simp only [Int.ofNat_eq_natCast]);omega) AllP.n) ?_
   refine ⟨h,?_,trivial⟩
   dsimp only
   rw [preL_f (p:=fun o=>counts o d) (f:=id) h h2]
   refine Wk.vw (ps:=[(1,1),(0,0)]) ⟨rfl,rfl,(by repeat (first | exact wf_nil | refine wf_back rfl rfl rfl ?_)),_,rfl,((LImp.refl _))⟩
 have h:k=x.length:=by have:=nge h;omega
 subst h
 rw [preL_all,List.map_id,←cnt_nb]
 refine VSt.go tb_ok false [] 200 rfl AllP.n ?_
 refine VSt.viewO (Vw.kp [3,5,6,7,8,9,61] [(0,0),(1,1)] rfl) ?_
 refine VSt.viewO (Vw.freezeA 1 rfl rfl ⟨Nat.le_refl _,rfl⟩) ?_
 refine VSt.viewO (Vw.freezeC 0 [.int .i64 n0,.int .i64 n1,.int .i64 n2] rfl rfl) ?_
 refine VSt.putO 9 (.p (eLO (cnt x d nb))) rfl (AImp.of_eq (acc_eLO rfl)) ?_
 refine VSt.pc rfl rfl rfl rfl rfl rfl rfl rfl (hDat) ?_
 refine VSt.go tb_ok false [] 200 rfl AllP.n ?_
 refine VSt.loopT (ti:=14) (setL (datL x)).length [3,5,6,7,8,9,11,12] (fun k=>[(13,iv (lasK (setL (datL x)) d k))]) (fun _=>[]) (fun _=>True) rfl rfl (u0_cons rfl (AImp.refl _) u0_nil) trivial trivial (fun k hk _=>?_)
 refine VSt.go tb_ok false [] 200 rfl AllP.n ?_
 refine VSt.cond rfl (fun h=>?_) (fun h=>?_)
 ·have h:=nlt h
  refine VSt.go tb_ok false [] 200 rfl (AllP.c ‹_› (AllP.c rfl AllP.n)) ?_
  refine VSt.cond rfl (fun h2=>?_) (fun h2=>?_)
  ·have h2:decide ((setL (datL x)).getD k 0≤d)=true:=h2
   refine VSt.go tb_ok false [] 200 rfl (AllP.c ‹_› (AllP.c rfl (AllP.c (by unfold inR;(try simp only [Int.ofNat_eq_natCast]);omega) AllP.n))) ?_
   refine ⟨h,?_,trivial⟩
   dsimp only
   rw [show lasK (setL (datL x)) d (k+1)=(setL (datL x)).getD k 0 by rw [lasK,h2];rfl]
   (refine Vw.drop (by repeat (first | exact wf_nil | refine wf_back rfl rfl rfl ?_ | refine wf_cons rfl ‹_› (ren_only _ ‹_›) ?_)))
  ·have h2:decide ((setL (datL x)).getD k 0≤d)=false:=h2
   refine VSt.go tb_ok false [] 200 rfl (AllP.c (by unfold inR;(try simp only [Int.ofNat_eq_natCast]);omega) AllP.n) ?_
   refine ⟨h,?_,trivial⟩
   dsimp only
   rw [show lasK (setL (datL x)) d (k+1)=lasK (setL (datL x)) d k by rw [lasK,h2];rfl]
   (refine Vw.drop (by repeat (first | exact wf_nil | refine wf_back rfl rfl rfl ?_ | refine wf_cons rfl ‹_› (ren_only _ ‹_›) ?_)))
 have h:k=(setL (datL x)).length:=by have:=nge h;omega
 subst h
 rw [show lasK (setL (datL x)) d (setL (datL x)).length=lasD x d from rfl]
 refine VSt.go tb_ok false [] 200 rfl AllP.n ?_
 refine VSt.splitO 83 rfl (fun i1=>?_) (fun i1=>?_)
 ·exact absurd i1 (by decide)
 refine VSt.go tb_ok false [] 200 rfl AllP.n ?_
 refine VSt.cond rfl (fun h=>absurd h (by decide)) (fun _=>?_)
 refine VSt.go tb_ok false [] 200 rfl AllP.n ?_
 refine VSt.loop (α :=Nat) (fun k F L=>5≤k∧k≤9∧F=[(3,.p (.fp [.int .i64 n0,.int .i64 n1,.int .i64 n2] 0)),(6,.p (eOpns x.isEmpty x)),(7,iv d),(8,iv day),(9,.p (eLO (cnt x d nb))),(13,iv (lasD x d)),(15,nv k)]∧L=[]) (fun k=>9 - k) 5 (by (refine Vw.sub' (subK (by repeat (first | exact sk_nil | refine sk_cons rfl ?_))))) ⟨Nat.le_refl _,by decide,rfl,rfl⟩ ?_
 rintro k F L ⟨hk5,hk9,rfl,rfl⟩
 refine VSt.go tb_ok false [] 200 rfl AllP.n ?_
 refine VSt.cond rfl (fun h=>?_) (fun h=>?_)
 ·have h:k<9:=by have:=of_decide_eq_true h;simp only [Int.ofNat_eq_natCast] at this;omega
  have hp:wth (Int.ofNat k) 1 999=true:=wth_iff.2 ⟨by simp only [Int.ofNat_eq_natCast];omega,by simp only [Int.ofNat_eq_natCast];omega⟩
  have hc1:=ins_good (r:=(t,true)) (b:=(cnt x d nb).isEmpty) (l:=cnt x d nb) (paper:=Int.ofNat k) hRc hp hy hd
  rw [insI_cnt hR hRc hp (cnt_cnt x d)] at hc1
  refine VSt.go tb_ok false [] 200 rfl AllP.n ?_
  refine VSt.pc rfl rfl rfl rfl rfl rfl rfl rfl ((ins_good (b:=x.isEmpty) (l:=x) (paper:=Int.ofNat k) hR hp hy hd)) ?_
  refine VSt.go tb_ok false [] 200 rfl AllP.n ?_
  refine VSt.pc rfl rfl rfl rfl rfl rfl rfl rfl (hc1) ?_
  refine VSt.go tb_ok false [] 200 rfl AllP.n ?_
  refine VSt.splitO 109 rfl (fun g1=>?_) (fun g1=>?_)
  ·exact absurd g1 (by decide)
  refine VSt.go tb_ok false [] 200 rfl AllP.n ?_
  refine VSt.splitO 113 rfl (fun g2=>?_) (fun g2=>?_)
  ·exact absurd g2 (by decide)
  refine VSt.go tb_ok false [] 200 rfl AllP.n ?_
  refine VSt.cond rfl (fun g=>?_) (fun _=>?_)
  ·exact bne_not g
  refine VSt.go tb_ok false [] 200 rfl AllP.n ?_
  refine VSt.cond rfl (fun _=>?_) (fun g3=>?_)
  ·refine VSt.go tb_ok false [] 200 rfl (AllP.c (by unfold inR;(try simp only [Int.ofNat_eq_natCast]);omega) AllP.n) ?_
   exact ⟨k+1,_,_,(by (refine Vw.sub' (subK (by repeat (first | exact sk_nil | refine sk_cons rfl ?_))))),⟨by omega,by omega,rfl,rfl⟩,by show 9 - (k+1)<9 - k;omega⟩
  ·have g3:¬ lasD x d<0:=of_decide_eq_false g3
   obtain ⟨u1,u2⟩:=las_cnt g3
   have hc2:=ins_good (r:=(t,true)) (b:=x.isEmpty) (l:=x) (d:=lasD x d) (paper:=Int.ofNat k) hR hp hy (wth_iff.2 (by omega))
   rw [insI_cnt (d:=d) hR hR hp u2] at hc2
   refine VSt.go tb_ok false [] 200 rfl AllP.n ?_
   refine VSt.pc rfl rfl rfl rfl rfl rfl rfl rfl (hc2) ?_
   refine VSt.go tb_ok false [] 200 rfl AllP.n ?_
   refine VSt.splitO 130 rfl (fun g4=>?_) (fun g4=>?_)
   ·exact absurd g4 (by decide)
   refine VSt.go tb_ok false [] 200 rfl AllP.n ?_
   refine VSt.cond rfl (fun g=>?_) (fun _=>?_)
   ·exact bne_not g
   refine VSt.go tb_ok false [] 200 rfl (AllP.c (by unfold inR;(try simp only [Int.ofNat_eq_natCast]);omega) AllP.n) ?_
   exact ⟨k+1,_,_,(by (refine Vw.sub' (subK (by repeat (first | exact sk_nil | refine sk_cons rfl ?_))))),⟨by omega,by omega,rfl,rfl⟩,by show 9 - (k+1)<9 - k;omega⟩
 refine VSt.go tb_ok false [] 200 rfl AllP.n ?_
 refine VSt.cond rfl (fun _=>?_) (fun h0=>?_)
 ·refine VSt.go tb_ok false [] 200 rfl AllP.n ?_
  exact EndsP.mk rfl rfl rfl rfl
 have h0:0<x.length:=by
  have h0:(Int.ofNat x.length==0)=false:=h0
  rcases Nat.eq_zero_or_pos x.length with e | e
  ·rw [e] at h0;cases h0
  ·exact e
 have hm1:(0:Int)<Int.ofNat x.length:=by simp only [Int.ofNat_eq_natCast];omega
 have hMi:=Mod_okN (r:=(t,true)) (n:=n2) (m:=Int.ofNat x.length) hm1 (by simp only [Int.ofNat_eq_natCast];omega)
 have hqi:mdN n2 (Int.ofNat x.length)<x.length:=by
  have:=md_bd (n:=n2) hm1
  unfold mdN
  simp only [Int.ofNat_eq_natCast] at this ⊢
  omega
 generalize mdN n2 (Int.ofNat x.length)=q at *
 refine VSt.go tb_ok false [] 200 rfl (AllP.c (Nat.le_refl _) AllP.n) ?_
 refine VSt.pc rfl rfl rfl rfl rfl rfl rfl rfl (hMi) ?_
 refine VSt.go tb_ok false [22] 200 rfl (AllP.c ‹_› (AllP.c rfl AllP.n)) ?_
 refine VSt.aside (eOpn (nth x q)) tb_ok rfl rfl rfl rfl rfl rfl rfl rfl rfl rfl rfl ?_
 have hox:nth x q∈x:=getD_mem hqi
 have hs:hasS x (nth x q).source=true:=List.any_eq_true.2 ⟨nth x q,hox,beq_self_eq_true _⟩
 have hw:=Without_ok (r:=(t,true)) (b:=x.isEmpty) (s:=(nth x q).source) hR
 have ew:woP x (nth x q).source=eOpns false (lessP x (nth x q).source):=by unfold woP;rw [hs];rfl
 rw [ew,hs] at hw
 have hml:=movL_len hR (s:=(nth x q).source) (d:=d)
 refine VSt.go tb_ok false [] 200 rfl AllP.n ?_
 refine VSt.pc rfl rfl rfl rfl rfl rfl rfl rfl ((mov_good (b:=x.isEmpty) hR hd hs)) ?_
 refine VSt.go tb_ok false [] 200 rfl AllP.n ?_
 refine VSt.pc rfl rfl rfl rfl rfl rfl rfl rfl (hw) ?_
 refine VSt.go tb_ok false [] 200 rfl AllP.n ?_
 refine VSt.splitO 163 rfl (fun g1=>?_) (fun g1=>?_)
 ·exact absurd g1 (by decide)
 refine VSt.go tb_ok false [] 200 rfl AllP.n ?_
 refine VSt.splitO 167 rfl (fun g2=>?_) (fun g2=>?_)
 ·exact absurd g2 (by decide)
 refine VSt.go tb_ok false [] 200 rfl AllP.n ?_
 refine VSt.pc rfl rfl rfl rfl rfl rfl rfl rfl ((lawCounts_ok (nth x q) d)) ?_
 refine VSt.go tb_ok false [] 200 rfl AllP.n ?_
 refine VSt.splitO 172 rfl (fun g3=>?_) (fun g3=>?_)
 all_goals refine VSt.go tb_ok false [] 200 rfl AllP.n ?_
 refine VSt.cond rfl (fun h=>?_) (fun _=>?_)
 ·have g3:counts (nth x q) d=false:=nt g3
  have em:movL x (nth x q).source d=[]:=mov_none fun o ho e=>by
   have:o=nth x q:=hR.vc.inj ho hox (by unfold src;rw [e])
   rw [this];exact g3
  rw [em] at h
  exact absurd h (by decide)
 refine VSt.go tb_ok false [] 200 rfl AllP.n ?_
 all_goals
  refine VSt.loopT (ti:=27) (cnt x d nb).length [6,7,9,22,23,25] (fun _=>[]) (fun _=>[]) (fun _=>True) rfl rfl u0_nil trivial trivial (fun k hk _=>?_)
  refine VSt.go tb_ok false [] 200 rfl AllP.n ?_
  refine VSt.cond rfl (fun h=>?_) (fun h=>?_)
  ·have h:=nlt h
   have hyc:nth (cnt x d nb) k∈cnt x d nb:=getD_mem h
   refine VSt.go tb_ok false [] 200 rfl (AllP.c ‹_› (AllP.c rfl AllP.n)) ?_
   refine VSt.cond rfl (fun g4=>?_) (fun g4=>?_)
   ·refine VSt.go tb_ok false [] 200 rfl (AllP.c (by unfold inR;(try simp only [Int.ofNat_eq_natCast]);omega) AllP.n) ?_
    refine ⟨h,?_,trivial⟩
    (refine Vw.drop (by repeat (first | exact wf_nil | refine wf_back rfl rfl rfl ?_ | refine wf_cons rfl ‹_› (ren_only _ ‹_›) ?_)))
   ·have g4:((nth (cnt x d nb) k).source==(nth x q).source)=false:=g4
    obtain ⟨hy2,hmv⟩:=mov_has hR hyc (s:=(nth x q).source) (by simpa using g4)
    refine VSt.go tb_ok false [] 200 rfl (AllP.c ‹_› (AllP.c rfl AllP.n)) ?_
    refine VSt.pc rfl rfl rfl rfl rfl rfl rfl rfl ((tru_good (b:=x.isEmpty) hR hd hyc)) ?_
    refine VSt.go tb_ok false [] 200 rfl (AllP.c ‹_› (AllP.c rfl AllP.n)) ?_
    refine VSt.pc rfl rfl rfl rfl rfl rfl rfl rfl ((tru_good (b:=false) (hR.lessP (nth x q).source) hd hy2)) ?_
    refine VSt.go tb_ok false [] 200 rfl AllP.n ?_
    refine VSt.splitO 216 rfl (fun g5=>?_) (fun g5=>?_)
    ·exact absurd g5 (by decide)
    refine VSt.go tb_ok false [] 200 rfl AllP.n ?_
    refine VSt.splitO 220 rfl (fun g6=>?_) (fun g6=>?_)
    ·exact absurd g6 (by decide)
    refine VSt.go tb_ok false [] 200 rfl (AllP.c ‹_› (AllP.c rfl AllP.n)) ?_
    refine VSt.pc rfl rfl rfl rfl rfl rfl rfl rfl ((Has_ok (b:=(movL x (nth x q).source d).isEmpty) (l:=movL x (nth x q).source d) (x:=(nth (cnt x d nb) k).source) (by omega))) ?_
    refine VSt.go tb_ok false [] 200 rfl AllP.n ?_
    refine VSt.cond rfl (fun g7=>?_) (fun _=>?_)
    ·have g7:(!(hasI (movL x (nth x q).source d) (nth (cnt x d nb) k).source == !(truI (cnt x d nb) (nth (cnt x d nb) k)==truI (cnt (lessP x (nth x q).source) d nb) (nth (cnt x d nb) k))))=true:=g7
     rw [hmv,beq_self_eq_true] at g7
     cases g7
    refine VSt.go tb_ok false [] 200 rfl (AllP.c (by unfold inR;(try simp only [Int.ofNat_eq_natCast]);omega) AllP.n) ?_
    refine ⟨h,?_,trivial⟩
    (refine Vw.drop (by repeat (first | exact wf_nil | refine wf_back rfl rfl rfl ?_ | refine wf_cons rfl ‹_› (ren_only _ ‹_›) ?_)))
  ·refine VSt.go tb_ok false [] 200 rfl AllP.n ?_
   exact EndsP.mk rfl rfl rfl rfl
end Go.Proofs.YtbieflpgjmgaiaaGreat
