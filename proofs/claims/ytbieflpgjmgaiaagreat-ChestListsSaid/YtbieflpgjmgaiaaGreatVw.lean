/- The program's ChestLists returns true for all openings, numbers and days, valid or not, without an exception and without changing its arguments: a part of the proof. -/
import Derived.Test.YtbieflpgjmgaiaaGreatVr
import Derived.Test.YtbieflpgjmgaiaaGreatVs
import Derived.Test.YtbieflpgjmgaiaaGreatVv
set_option linter.all false
/- Walks: Unlawful, the program's and the reference's. -/
set_option maxRecDepth 100000
namespace Go.Proofs.YtbieflpgjmgaiaaGreat
open Kuhn
variable {r:Rm}
noncomputable def badP (c:List Opn) (o:Opn):Bool:=o.lawful==0&&truI c o==1
noncomputable def unK (l:List Opn) (d:Int) (k:Nat):List Int:=preL l (fun o=>counts o d&&badP (cnt l d nb) o) (·.source) k
theorem unK_all {l:List Opn} {d:Int}:unK l d l.length=((cnt l d nb).filter (badP (cnt l d nb))).map (·.source):=by
 unfold unK
 rw [preL_all]
 congr 1
 conv=>rhs;rw [show (cnt l d nb).filter (badP (cnt l d nb))=(l.filter fun o=>counts o d).filter (badP (cnt l d nb)) by rw [←cnt_nb]]
 rw [List.filter_filter]
 congr 1;funext o
 rw [Bool.and_comm]
open Classical in
noncomputable def unV (l:List Opn) (d:Int):List Int:=if askE l d=0 then ((cnt l d nb).filter (badP (cnt l d nb))).map (·.source) else []
set_option maxHeartbeats 4000000 in
theorem Unlawful_ok {b:Bool} {l:List Opn} {d:Int} (hz:SzsW l):VP (sE r) 17 [.p (eOpns b l),iv d] (.tup [.p (eL (unV l d)),iv (askE l d)]):=by
 have hlk:=look_ok (r:=r) (b:=b) (ds:=[d]) hz (show 0<1 by decide) (show 1<1000000 by decide)
 refine VP.of (fn:=Tryz.f17) tb_ok (wk_ok rfl) (by kernel_rfl) rfl rfl rfl ?_
 refine VSt.go tb_ok false [] 200 rfl AllP.n ?_
 rcases ask_cases l d with ⟨hR,hd,hE⟩ | ⟨hE,hl⟩
 ·have hz:=hR.szs
  have hV:=hR.cnt d nb
  have hll:=hR.len
  have eq:unV l d=((cnt l d nb).filter (badP (cnt l d nb))).map (·.source):=if_pos hE
  rw [(look1 (b:=b) hR hd).1,(look1 (b:=b) hR hd).2] at hlk
  rw [eq,hE]
  refine VSt.pc rfl rfl rfl rfl rfl rfl rfl rfl ((VP.imp hlk ⟨AImp.refl _,lit1,trivial⟩)) ?_
  refine VSt.go tb_ok false [] 200 rfl AllP.n ?_
  refine VSt.cond rfl (fun h=>absurd h (by decide)) (fun _=>?_)
  refine VSt.go tb_ok false [] 200 rfl AllP.n ?_
  refine VSt.pc rfl rfl rfl rfl rfl rfl rfl rfl ((counting_ok b l d)) ?_
  refine VSt.go tb_ok false [] 200 rfl AllP.n ?_
  refine VSt.viewC (Vw.kp [6,8,21] [(0,0),(1,1)] rfl) ?_
  refine VSt.viewC (Vw.adopt 2 1 (fL []) 3 rfl) ?_
  refine VSt.viewC (Wk.vw (ps:=[(0,0),(1,1),(2,2)]) (F0:=[(6,.ref 0 0),(8,.ref 1 0),(21,knF b l d)]) (L0:=[(0,.cells [.p (knP b l d)] 70),(1,.cells [.acc true 2 1 0] 32),(2,.acc 0 1 (fL []) 3)]) ⟨rfl,rfl,(by repeat (first | exact wf_nil | refine wf_back rfl rfl rfl ?_)),_,rfl,⟨rfl,BImp.refl _,rfl,BImp.cell1 AImp.nilAcc,rfl,BImp.refl _,trivial⟩⟩) ?_
  refine VSt.rangeFuncG [(0,3),(1,0),(2,1),(3,2)] (stc:=[0,1,2]) rfl rfl rfl rfl rfl rfl rfl rfl (cnt1_ok (b:=b) (l:=l) (d:=d) (by omega) (G1:=fun k=>(22,.agg ((eOpn (nth l k)).map .p))::[(6,.ref 1 0),(8,.ref 2 0),(21,knF b l d)]) [1,2]
   (fun k L=>L=(1,.cells [.p (knP b l d)] 70)::memL 2 3 (unK l d k)) (fun _=>False) rfl (fun _=>rfl) ?_ ?_) ?_
  ·rintro k L hk hc rfl
   rw [show unK l d (k+1)=unK l d k from preL_f hk (by show (counts (nth l k) d&&_)=_;rw [hc];rfl)]
  ·rintro k L hk hc rfl
   refine VSt.go tb_ok false [9] 200 rfl AllP.n ?_
   refine VSt.aside (eOpn (nth l k)) tb_ok rfl rfl rfl rfl rfl rfl rfl rfl rfl rfl rfl ?_
   refine VSt.go tb_ok false [] 200 rfl AllP.n ?_
   refine ⟨rfl,_,rfl,?_⟩
   have hlen:(unK l d k).length≤l.length:=preL_len
   have hin:nth l k∈cnt l d nb:=by rw [cnt_nb];exact List.mem_filter.2 ⟨getD_mem hk,hc⟩
   have no:badP (cnt l d nb) (nth l k)=false→unK l d (k+1)=unK l d k:=fun h=>preL_f hk (by show (counts (nth l k) d&&_)=_;rw [hc,h];rfl)
   refine VSt.go tb_ok false [] 200 rfl AllP.n ?_
   refine VSt.splitO 26 rfl (fun h1=>?_) (fun h1=>?_)
   ·have h1:((nth l k).lawful==0)=true:=h1
    refine VSt.go tb_ok false [] 200 rfl AllP.n ?_
    refine VSt.pc rfl rfl rfl rfl rfl rfl rfl rfl ((truth_ok (b:=b) hz hR hin)) ?_
    refine VSt.go tb_ok false [] 200 rfl AllP.n ?_
    refine VSt.cond rfl (fun h2=>?_) (fun h2=>?_)
    ·have h2:(truI (cnt l d nb) (nth l k)==1)=true:=h2
     have e:unK l d (k+1)=unK l d k++[(nth l k).source]:=preL_t hk (by show (counts (nth l k) d&&_)=_;unfold badP;rw [hc,h1,h2];rfl)
     have hN:=congrArg List.length e
     rw [List.length_append,List.length_singleton] at hN
     refine VSt.go tb_ok false [] 200 rfl (AllP.c (by omega) (AllP.c (by omega) (AllP.c (fun q hq=>match q,hq with | 0,_=>rfl) (AllP.c rfl (AllP.c rfl (AllP.c rfl AllP.n)))))) ?_
     exact .inl ⟨rfl,[],_,by refine Wk.vw (ps:=[(0,0),(1,1),(2,2),(3,4)]) ⟨rfl,rfl,(by repeat (first | exact wf_nil | refine wf_back rfl rfl rfl ?_)),_,rfl,(⟨rfl,BImp.refl _,rfl,BImp.refl _,rfl,BImp.cell1 (AImp.acc hN.symm (fun _=>rfl)),rfl,BImp.acc hN.symm (fun x hx=>by rw [e];exact app_int _ _ x hx),trivial⟩)⟩,rfl⟩
    ·have h2:(truI (cnt l d nb) (nth l k)==1)=false:=h2
     refine VSt.go tb_ok false [] 200 rfl AllP.n ?_
     rw [←no (by unfold badP;rw [h1,h2];rfl)]
     exact .inl ⟨rfl,[],_,by refine Wk.vw (ps:=[(0,0),(1,1),(2,2),(3,3)]) ⟨rfl,rfl,(by repeat (first | exact wf_nil | refine wf_back rfl rfl rfl ?_)),_,rfl,((LImp.refl _))⟩,rfl⟩
   ·have h1:((nth l k).lawful==0)=false:=h1
    refine VSt.go tb_ok false [] 200 rfl AllP.n ?_
    rw [←no (by unfold badP;rw [h1];rfl)]
    exact .inl ⟨rfl,[],_,by refine Wk.vw (ps:=[(0,0),(1,1),(2,2),(3,3)]) ⟨rfl,rfl,(by repeat (first | exact wf_nil | refine wf_back rfl rfl rfl ?_)),_,rfl,((LImp.refl _))⟩,rfl⟩
  ·rintro a L' (⟨L,rfl,rfl⟩ | ⟨G2,L,hJ,rfl⟩)
   rotate_left
   ·exact hJ.elim
   refine ⟨_,_,_,_,_,_,_,_,rfl,rfl,rfl,?_⟩
   rw [unK_all]
   refine VSt.viewC (Vw.kp [8] [(0,1),(1,2)] rfl) ?_
   refine VSt.viewC (Vw.freezeA 1 rfl rfl ⟨Nat.le_refl _,rfl⟩) ?_
   refine VSt.go tb_ok false [] 200 rfl AllP.n ?_
   refine EndsP.mk rfl rfl rfl ?_
   have e1:=acc_eInts (j:=0) (l:=((cnt l d nb).filter (badP (cnt l d nb))).map (·.source)) rfl
   show AV.tup [_,_]=AV.tup [_,_]
   rw [show AV.p (eL (((cnt l d nb).filter (badP (cnt l d nb))).map (·.source)))=_ from e1.symm]
   rfl
 ·rw [(hl b).1,(hl b).2] at hlk
  have eq:unV l d=[]:=if_neg hE
  rw [eq]
  refine VSt.pc rfl rfl rfl rfl rfl rfl rfl rfl ((VP.imp hlk ⟨AImp.refl _,lit1,trivial⟩)) ?_
  refine VSt.go tb_ok false [] 200 rfl AllP.n ?_
  refine VSt.cond rfl (fun _=>?_) (fun h=>?_)
  ·refine VSt.go tb_ok false [5] 200 rfl AllP.n ?_
   refine VSt.putO 4 (.p (eL [])) rfl AImp.nil ?_
   refine VSt.go tb_ok false [] 200 rfl AllP.n ?_
   exact EndsP.mk rfl rfl rfl rfl
  ·have h:(!(askE l d==0))=false:=h
   exact absurd (by simpa using h) hE
set_option maxHeartbeats 4000000 in
theorem rUnlawful_ok {b:Bool} {l:List Opn} {d:Int} (hz:SzsW l):VP (sE r) 18 [.p (eOpns b l),iv d] (.tup [.p (eL (unV l d)),iv (askE l d)]):=by
 have hask:=asked_ok (r:=r) (b:=b) (d:=d) hz
 refine VP.of (fn:=Tryz.f18) tb_ok (wk_ok rfl) (by kernel_rfl) rfl rfl rfl ?_
 refine VSt.go tb_ok false [] 200 rfl AllP.n ?_
 rcases ask_cases l d with ⟨hR,hd,hE⟩ | ⟨hE,_⟩
 ·have hz:=hR.szs
  have hV:=hR.cnt d nb
  have hn:(cnt l d nb).length≤60:=Vc.len hR rfl
  have hzc:=szs_cnt (d:=d) hz
  have eq:unV l d=((cnt l d nb).filter (badP (cnt l d nb))).map (·.source):=if_pos hE
  rw [hE] at hask
  rw [eq,hE]
  refine VSt.pc rfl rfl rfl rfl rfl rfl rfl rfl (hask) ?_
  refine VSt.go tb_ok false [] 200 rfl AllP.n ?_
  refine VSt.cond rfl (fun h=>absurd h (by decide)) (fun _=>?_)
  refine VSt.go tb_ok false [] 200 rfl AllP.n ?_
  refine VSt.pc rfl rfl rfl rfl rfl rfl rfl rfl ((rcounting_ok (b:=b) hz hR (wth_iff.1 hd).2)) ?_
  generalize cnt l d nb=c at *
  refine VSt.go tb_ok false [] 200 rfl AllP.n ?_
  refine VSt.viewC (Vw.adopt 0 1 (fL []) 3 rfl) ?_
  refine VSt.loopT (ti:=9) c.length [7] (fun k=>[(8,.acc true 0 1 (preL c (badP c) (·.source) k).length)]) (fun k=>[(0,.acc (preL c (badP c) (·.source) k).length 1 (fL (preL c (badP c) (·.source) k)) 3)]) (fun _=>True) rfl rfl (u0_cons rfl AImp.nilAcc u0_nil) (LImp.refl _) trivial (fun k hk _=>?_)
  have hlen:(preL c (badP c) (·.source) k).length≤c.length:=preL_len
  refine VSt.go tb_ok false [] 200 rfl AllP.n ?_
  refine VSt.cond rfl (fun h=>?_) (fun h=>?_)
  ·have h:=nlt h
   have no:badP c (nth c k)=false→preL c (badP c) (·.source) (k+1)=preL c (badP c) (·.source) k:=fun h1=>preL_f h h1
   refine VSt.go tb_ok false [] 200 rfl (AllP.c ‹_› (AllP.c rfl AllP.n)) ?_
   refine VSt.splitO 31 rfl (fun h1=>?_) (fun h1=>?_)
   ·have h1:((nth c k).lawful==0)=true:=h1
    refine VSt.go tb_ok false [] 200 rfl (AllP.c ‹_› (AllP.c rfl AllP.n)) ?_
    refine VSt.pc rfl rfl rfl rfl rfl rfl rfl rfl ((rtruth_ok (b:=c.isEmpty) (c:=c) (o:=nth c k) hzc hV hn (getD_mem h))) ?_
    refine VSt.go tb_ok false [] 200 rfl AllP.n ?_
    refine VSt.cond rfl (fun h2=>?_) (fun h2=>?_)
    ·have h2:(truI c (nth c k)==1)=true:=h2
     have e:preL c (badP c) (·.source) (k+1)=preL c (badP c) (·.source) k++[(nth c k).source]:=preL_t h (by unfold badP;rw [h1,h2];rfl)
     have hN:=congrArg List.length e
     rw [List.length_append,List.length_singleton] at hN
     refine VSt.go tb_ok false [] 200 rfl (AllP.c ‹_› (AllP.c rfl (AllP.c (by omega) (AllP.c (by omega) (AllP.c (fun q hq=>match q,hq with | 0,_=>rfl) (AllP.c rfl (AllP.c rfl (AllP.c rfl (AllP.c (by unfold inR;(try simp only [Int.ofNat_eq_natCast]);omega) AllP.n))))))))) ?_
     refine ⟨h,?_,trivial⟩
     exact Wk.vw (ps:=[(0,1)]) ⟨rfl,rfl,(by repeat (first | exact wf_nil | refine wf_back rfl rfl rfl ?_ | refine wf_imp rfl rfl (AImp.acc hN.symm (fun _=>rfl)) ?_)),_,rfl,⟨rfl,BImp.acc hN.symm (fun x hx=>by rw [e];exact app_int _ _ x hx),trivial⟩⟩
    ·have h2:(truI c (nth c k)==1)=false:=h2
     refine VSt.go tb_ok false [] 200 rfl (AllP.c (by unfold inR;(try simp only [Int.ofNat_eq_natCast]);omega) AllP.n) ?_
     refine ⟨h,?_,trivial⟩
     dsimp only
     rw [no (by unfold badP;rw [h1,h2];rfl)]
     refine Wk.vw (ps:=[(0,0)]) ⟨rfl,rfl,(by repeat (first | exact wf_nil | refine wf_back rfl rfl rfl ?_)),_,rfl,((LImp.refl _))⟩
   ·have h1:((nth c k).lawful==0)=false:=h1
    refine VSt.go tb_ok false [] 200 rfl (AllP.c (by unfold inR;(try simp only [Int.ofNat_eq_natCast]);omega) AllP.n) ?_
    refine ⟨h,?_,trivial⟩
    dsimp only
    rw [no (by unfold badP;rw [h1];rfl)]
    refine Wk.vw (ps:=[(0,0)]) ⟨rfl,rfl,(by repeat (first | exact wf_nil | refine wf_back rfl rfl rfl ?_)),_,rfl,((LImp.refl _))⟩
  ·have h:k=c.length:=by have:=nge h;omega
   subst h
   rw [preL_all]
   refine VSt.go tb_ok false [48] 200 rfl AllP.n ?_
   refine VSt.viewO (Vw.kp [8] [(0,0)] rfl) ?_
   refine VSt.viewO (Vw.freezeA 0 rfl rfl ⟨Nat.le_refl _,rfl⟩) ?_
   refine VSt.go tb_ok false [] 200 rfl AllP.n ?_
   refine EndsP.mk rfl rfl rfl ?_
   have e1:=acc_eInts (j:=0) (l:=(c.filter (badP c)).map (·.source)) rfl
   show AV.tup [_,_]=AV.tup [_,_]
   rw [show AV.p (eL ((c.filter (badP c)).map (·.source)))=_ from e1.symm]
   rfl
 ·have eq:unV l d=[]:=if_neg hE
  rw [eq]
  refine VSt.pc rfl rfl rfl rfl rfl rfl rfl rfl (hask) ?_
  refine VSt.go tb_ok false [] 200 rfl AllP.n ?_
  refine VSt.cond rfl (fun _=>?_) (fun h=>?_)
  ·refine VSt.go tb_ok false [5] 200 rfl AllP.n ?_
   refine VSt.putO 4 (.p (eL [])) rfl AImp.nil ?_
   refine VSt.go tb_ok false [] 200 rfl AllP.n ?_
   exact EndsP.mk rfl rfl rfl rfl
  ·have h:(!(askE l d==0))=false:=h
   exact absurd (by simpa using h) hE
end Go.Proofs.YtbieflpgjmgaiaaGreat
/- Walks: Content, the program's and the reference's. -/
set_option maxRecDepth 100000
namespace Go.Proofs.YtbieflpgjmgaiaaGreat
open Kuhn
variable {r:Rm}
noncomputable def conP (l:List Opn) (d day x:Int):Bool:=!(insI l d x day==1)
noncomputable def conF (b:Bool) (l:List Opn) (d day:Int):AV:=.fn 77 [] [.p (knB b l d),.p (.fp [.int .i64 day] 0)]
theorem Content1_ok {b:Bool} {l:List Opn} {d day:Int} (hz:Szs l) (hR:Reg l) (x:Int):VP (sE r) 77 ([]++([iv x]++[.p (knB b l d),.p (.fp [.int .i64 day] 0)])) (bv (conP l d day x)):=by
 refine VP.of (fn:=Tryz.f77) tb_ok (wk_ok rfl) (by kernel_rfl) rfl rfl rfl ?_
 refine VSt.go tb_ok false [] 200 rfl AllP.n ?_
 refine VSt.pc rfl rfl rfl rfl rfl rfl rfl rfl ((inside_ok (b:=b) (paper:=x) (day:=day) hz hR)) ?_
 refine VSt.go tb_ok false [] 200 rfl AllP.n ?_
 exact EndsP.mk rfl rfl rfl rfl
theorem idx_cases (S:List Int) (p:Int→Bool):(idxI S p = -1∧∀ i,i<S.length→p (S.getD i 0)=false)∨∃ k,k<S.length∧idxI S p=Int.ofNat k∧p (S.getD k 0)=true∧∀ i,i<k→p (S.getD i 0)=false:=by
 cases h:S.findIdx? p with
 | none =>
  refine .inl ⟨by unfold idxI;rw [h],fun i hi=>?_⟩
  rw [List.findIdx?_eq_none_iff] at h
  exact h _ (getD_mem hi)
 | some k =>
  rw [List.findIdx?_eq_some_iff_getElem] at h
  obtain ⟨hk,h1,h2⟩:=h
  have hp:p (S.getD k 0)=true:=by rw [getD_get hk];exact h1
  have hb:∀ i,i<k→p (S.getD i 0)=false:=fun i hi=>by
   have:=h2 i hi
   rw [getD_get (by omega)]
   simpa using this
  exact .inr ⟨k,hk,idxI_hit hk hp hb,hp,hb⟩
theorem take_snoc {S:List Int} {k:Nat} (h:k<S.length):S.take (k+1)=S.take k++[S.getD k 0]:=by
 rw [List.take_add_one,List.getElem?_eq_getElem h,getD_get h];rfl
theorem take_allN {S:List Int} {p:Int→Bool}:∀ {k:Nat},k≤S.length→(∀ i,i<k→p (S.getD i 0)=false)→(S.take k).filter (fun x=>!p x)=S.take k
 | 0,_,_=>by simp
 | k+1,h,hb=>by
  rw [take_snoc (by omega),List.filter_append,take_allN (by omega) fun i hi=>hb i (by omega),List.filter_cons_of_pos (by rw [hb k (by omega)];rfl)];rfl
structure DelInv (S:List Int) (p:Int→Bool) (k m:Nat) (g:Nat→Int):Prop where
 kn:k≤S.length
 mk2:m<k
 len:((S.take k).filter fun x=>!p x).length=m
 done:∀ i,i<m→g i=((S.take k).filter fun x=>!p x).getD i 0
 rest:∀ i,m≤i→i<S.length→g i=S.getD i 0
set_option maxHeartbeats 4000000 in
theorem Delete1_ok {b:Bool} {l:List Opn} {d day:Int} (hz:Szs l) (hR:Reg l) {S:List Int} {n:Nat} {g:Nat→Int} (hm:S.length≤n) (hn:n≤1000000) (hG:∀ k,k<S.length→g k=S.getD k 0):VC (sE r) [0] 76 [.sl 0 1 0 S.length n 0,conF b l d day] [(0,.arr n 1 (fInts g) 3)]
  (fun a L=>∃ g':Nat→Int,a = .sl 0 1 0 (S.filter fun x=>!conP l d day x).length n 0∧L=[(0,.arr n 1 (fInts g') 3)]∧∀ k,k<(S.filter fun x=>!conP l d day x).length→g' k=(S.filter fun x=>!conP l d day x).getD k 0):=by
 refine VC.of (fn:=Tryz.f76) tb_ok (wk_ok rfl) (by kernel_rfl) rfl rfl ?_
 have hlk:VP (sE r) 108 [.p (.lst 3 false S.length fun k=>fInts g (0+k)),conF b l d day] (iv (idxI S (conP l d day))):=VP.imp (idxInt_ok (r:=r) (b:=false) (l:=S) (f:=77) (first:=[]) (cap:=[.p (knB b l d),.p (.fp [.int .i64 day] 0)]) (p:=conP l d day) (by omega) rfl (fun _=>rfl) (Content1_ok hz hR)) ⟨AImp.lst fun k hk=>(by rw [Nat.zero_add];show [PV.int .i64 (g k)]=_;rw [hG k hk]),AImp.refl _,trivial⟩
 refine VSt.go tb_ok false [] 200 rfl AllP.n ?_
 refine VSt.look (R:=fun a L=>a=iv (idxI S (conP l d day))∧L=[]) (first:=[]) (cap:=[]) (args:=[.p (.lst 3 false S.length fun k=>fInts g (0+k)),conF b l d day]) (Vw.trans (Wk.vw (ps:=[(0,0)]) (F0:=[(8,.sl 0 1 0 S.length n 0),(9,conF b l d day)]) (L0:=[(0,.arr n 1 (fInts g) 3)]) ⟨rfl,rfl,(by repeat (first | exact wf_nil | refine wf_back rfl rfl rfl ?_)),_,rfl,LImp.refl _⟩) (Vw.freeze 0 rfl rfl ⟨by omega,hm,rfl⟩)) rfl rfl rfl rfl rfl rfl rfl hlk.2 (fun a L' h=>by rw [h.1,h.2];exact ⟨rfl,trivial⟩) ?_
 rintro a L' ⟨rfl,rfl⟩
 rcases idx_cases S (conP l d day) with ⟨e,hno⟩ | ⟨k0,hk0,e,hp0,hb0⟩
 ·have eS:(S.filter fun x=>!conP l d day x)=S:=by
   have:=take_allN (S:=S) (p:=conP l d day) (k:=S.length) (Nat.le_refl _) hno
   rwa [List.take_length] at this
  rw [e,eS]
  refine VSt.go tb_ok false [] 200 rfl AllP.n ?_
  refine VSt.cond rfl (fun _=>?_) (fun h=>absurd h (by decide))
  refine VSt.go tb_ok false [] 200 rfl AllP.n ?_
  exact ⟨rfl,_,[(0,0)],.sl 0 1 0 S.length n 0,_,rfl,⟨rfl,rfl,wf_imp rfl rfl (AImp.refl _) wf_nil,_,rfl,LImp.refl _⟩,g,rfl,rfl,hG⟩
 ·rw [e]
  have h0:DelInv S (conP l d day) (k0+1) k0 g:=by
   have e1:(S.take (k0+1)).filter (fun x=>!conP l d day x)=S.take k0:=by
    rw [take_snoc hk0,List.filter_append,take_allN (by omega) hb0,List.filter_cons_of_neg (by rw [hp0];decide),List.filter_nil,List.append_nil]
   refine ⟨hk0,Nat.lt_succ_self _,by rw [e1,List.length_take];omega,fun i hi=>?_,fun i _ h=>hG i h⟩
   rw [e1,hG i (by omega),getD_get (by omega),getD_get (by rw [List.length_take];omega),List.getElem_take]
  refine VSt.go tb_ok false [] 200 rfl AllP.n ?_
  refine VSt.cond rfl (fun h=>?_) (fun _=>?_)
  ·have h:(Int.ofNat k0 == -1)=true:=h
   simp only [beq_iff_eq,Int.ofNat_eq_natCast] at h
   omega
  refine VSt.go tb_ok false [] 200 rfl (AllP.c (by unfold inR;(try simp only [Int.ofNat_eq_natCast]);omega) AllP.n) ?_
  refine VSt.loop (α :=Nat×Nat×(Nat→Int)) (fun x F L=>DelInv S (conP l d day) x.1 x.2.1 x.2.2∧F=[(0,.sl 0 1 0 S.length n 0),(1,conF b l d day),(5,nv x.2.1),(6,nv x.1)]∧L=[(0,.arr n 1 (fInts x.2.2) 3)]) (fun x=>S.length - x.1) (k0+1,k0,g) (by (refine Vw.sub' (subK (by repeat (first | exact sk_nil | refine sk_cons rfl ?_))))) ⟨h0,rfl,rfl⟩ ?_
  intro x F L hx
  obtain ⟨hI,rfl,rfl⟩:=hx
  obtain ⟨k,m,g⟩:=x
  have i1:k≤S.length:=hI.kn
  have i2:m<k:=hI.mk2
  refine VSt.go tb_ok false [] 200 rfl AllP.n ?_
  refine VSt.cond rfl (fun g1=>?_) (fun g1=>?_)
  ·have g1:k<S.length:=nlt g1
   have r1:g (0+k)=S.getD k 0:=by rw [Nat.zero_add];exact hI.rest k (show m≤k by omega) g1
   have hk1:=take_snoc g1
   have i3:m<S.length:=by omega
   have i4:k<n:=by omega
   have i5:0+m<n:=by omega
   have j1:inR (Int.ofNat k+1):=by unfold inR;simp only [Int.ofNat_eq_natCast];omega
   have j2:inR (Int.ofNat m+1):=by unfold inR;simp only [Int.ofNat_eq_natCast];omega
   refine VSt.go tb_ok false [] 200 rfl (AllP.c ‹_› (AllP.c rfl (AllP.c (by omega) (AllP.c rfl AllP.n)))) ?_
   refine VSt.pc rfl rfl rfl rfl rfl rfl rfl rfl ((Content1_ok (b:=b) (l:=l) (d:=d) (day:=day) hz hR (g (0+k)))) ?_
   refine VSt.go tb_ok false [] 200 rfl AllP.n ?_
   refine VSt.cond rfl (fun g2=>?_) (fun g2=>?_)
   ·have g2:(!conP l d day (g (0+k)))=true:=g2
    have e3:(S.take (k+1)).filter (fun x=>!conP l d day x)=(S.take k).filter (fun x=>!conP l d day x)++[S.getD k 0]:=by
     rw [hk1,List.filter_append,List.filter_cons_of_pos (by rw [←r1];exact g2),List.filter_nil]
    refine VSt.go tb_ok false [] 200 rfl (AllP.c ‹_› (AllP.c rfl (AllP.c ‹_› (AllP.c rfl (AllP.c (Nat.le_refl _) (AllP.c ‹_› (AllP.c ‹_› AllP.n))))))) ?_
    refine ⟨(k+1,m+1,setP g m (g (0+k))),_,_,Wk.vw (ps:=[(0,0)]) (F0:=[(0,.sl 0 1 0 S.length n 0),(1,conF b l d day),(5,nv (m+1)),(6,nv (k+1))]) (L0:=[(0,.arr n 1 (fInts (setP g m (g (0+k)))) 3)]) ⟨rfl,rfl,(by repeat (first | exact wf_nil | refine wf_back rfl rfl rfl ?_)),_,rfl,⟨rfl,BImp.arr' rfl (fun q _=>set_cell _ _ _ q),trivial⟩⟩,⟨(show DelInv S (conP l d day) (k+1) (m+1) (setP g m (g (0+k))) from ⟨g1,by omega,by rw [e3,List.length_append,hI.len];rfl,fun i hi=>?_,fun i hi h2=>?_⟩),rfl,rfl⟩,by show S.length - (k+1)<S.length - k;omega⟩
    ·rw [e3,List.getD_eq_getElem?_getD]
     have hl:((S.take k).filter fun x=>!conP l d day x).length=m:=hI.len
     by_cases e:i=m
     ·subst e
      rw [setP_eq,List.getElem?_append_right (by rw [hl];exact Nat.le_refl _),hl,Nat.sub_self,r1];rfl
     ·rw [setP_ne e,List.getElem?_append_left (by rw [hl];omega),←List.getD_eq_getElem?_getD]
      exact hI.done i (by show i<m;omega)
    ·rw [setP_ne (by omega)]
     exact hI.rest i (by show m≤i;omega) h2
   ·have g2:(!conP l d day (g (0+k)))=false:=g2
    have e3:(S.take (k+1)).filter (fun x=>!conP l d day x)=(S.take k).filter (fun x=>!conP l d day x):=by
     rw [hk1,List.filter_append,List.filter_cons_of_neg (by rw [←r1,g2];decide),List.filter_nil,List.append_nil]
    refine VSt.go tb_ok false [] 200 rfl (AllP.c ‹_› AllP.n) ?_
    exact ⟨(k+1,m,g),_,_,(by (refine Vw.sub' (subK (by repeat (first | exact sk_nil | refine sk_cons rfl ?_))))),⟨(show DelInv S (conP l d day) (k+1) m g from ⟨g1,by omega,by rw [e3];exact hI.len,by rw [e3];exact hI.done,hI.rest⟩),rfl,rfl⟩,by show S.length - (k+1)<S.length - k;omega⟩
  ·have g1:k=S.length:=by have:=nge g1;omega
   have e3:S.take k=S:=by rw [g1,List.take_length]
   have hl:((S.take k).filter fun x=>!conP l d day x).length=m:=hI.len
   have hd:∀ i,i<m→g i=((S.take k).filter fun x=>!conP l d day x).getD i 0:=hI.done
   rw [e3] at hl hd
   have j1:m≤S.length:=by omega
   have j2:m≤n:=by omega
   have j4:m<n∨m=0:=by omega
   have j3:0+m+(S.length - m)≤n:=by omega
   refine VSt.go tb_ok false [] 200 rfl (AllP.c ‹_› (AllP.c ‹_› (AllP.c ‹_› (AllP.c rfl (AllP.c ‹_› (AllP.c rfl (AllP.c rfl (AllP.c (by omega) (AllP.c ‹_› (AllP.c (by omega) (AllP.c rfl AllP.n))))))))))) ?_
   refine ⟨rfl,_,[(0,0)],.sl 0 1 0 (S.filter fun x=>!conP l d day x).length n 0,[(0,.arr n 1 (fInts fun q=>bif Nat.ble (0+m) q&&Nat.blt q (0+m+(S.length - m)) then 0 else g q) 3)],rfl,⟨rfl,rfl,wf_imp rfl rfl (AImp.slE hl.symm rfl) wf_nil,_,rfl,⟨rfl,BImp.arr (fun q _=>bif_int),trivial⟩⟩,_,rfl,rfl,fun q hq=>?_⟩
   have hq:q<m:=by omega
   have hb:Nat.ble (0+m) q=false:=by
    rw [Nat.zero_add,←Bool.not_eq_true]
    intro h
    have:=Nat.le_of_ble_eq_true h
    omega
   show (bif Nat.ble (0+m) q&&_ then _ else _)=_
   rw [hb]
   exact hd q hq
theorem Delete0_ok {b:Bool} {l:List Opn} {d day:Int} (hz:Szs l) (hR:Reg l):VP (sE r) 76 [.p (.lst 3 true 0 fun _=>[]),conF b l d day] (.p (.lst 3 true 0 fun _=>[])):=by
 have hlk:VP (sE r) 108 [.p (.lst 3 true 0 fun _=>[]),conF b l d day] (iv (idxI [] (conP l d day))):=VP.imp (idxInt_ok (r:=r) (b:=true) (l:=[]) (f:=77) (first:=[]) (cap:=[.p (knB b l d),.p (.fp [.int .i64 day] 0)]) (p:=conP l d day) (by decide) rfl (fun _=>rfl) (Content1_ok hz hR)) ⟨AImp.lst fun k hk=>absurd hk (Nat.not_lt_zero k),AImp.refl _,trivial⟩
 refine VP.of (fn:=Tryz.f76) tb_ok (wk_ok rfl) (by kernel_rfl) rfl rfl rfl ?_
 refine VSt.go tb_ok false [] 200 rfl AllP.n ?_
 refine VSt.pc rfl rfl rfl rfl rfl rfl rfl rfl (hlk) ?_
 refine VSt.go tb_ok false [] 200 rfl AllP.n ?_
 refine VSt.cond rfl (fun _=>?_) (fun h=>absurd (show ((-1:Int) == -1)=false from h) (by decide))
 refine VSt.go tb_ok false [] 200 rfl AllP.n ?_
 exact EndsP.mk rfl rfl rfl rfl
noncomputable def conV (l:List Opn) (day d:Int):List Int:=if ask2 l day d=0 then (setL (papL l d)).filter (fun x=>!conP l d day x) else []
noncomputable def conB (l:List Opn) (day d:Int):Bool:=if ask2 l day d=0 then (papL l d).isEmpty else true
set_option maxHeartbeats 4000000 in
theorem Content_ok {b:Bool} {l:List Opn} {day d:Int} (hz:SzsW l):VP (sE r) 21 [.p (eOpns b l),iv day,iv d] (.tup [.p (eInts (conB l day d) (conV l day d)),iv (ask2 l day d)]):=by
 have hlk:=look_ok (r:=r) (b:=b) (ds:=[day,d]) hz (show 0<2 by decide) (show 2<1000000 by decide)
 refine VP.of (fn:=Tryz.f21) tb_ok (wk_ok rfl) (by kernel_rfl) rfl rfl rfl ?_
 refine VSt.go tb_ok false [4] 200 rfl AllP.n ?_
 refine VSt.asideB [.int .i64 day] rfl rfl rfl rfl rfl rfl ?_
 refine VSt.go tb_ok false [] 200 rfl AllP.n ?_
 rcases ask2_cases l day d with ⟨hR,d1,d2,hE⟩ | ⟨hE,hl⟩
 ·have hz:=hR.szs
  have eV:conV l day d=(setL (papL l d)).filter (fun x=>!conP l d day x):=if_pos hE
  have eB:conB l day d=(papL l d).isEmpty:=if_pos hE
  rw [(look2 (b:=b) hR d1 d2).1,(look2 (b:=b) hR d1 d2).2] at hlk
  rw [eV,eB,hE]
  refine VSt.pc rfl rfl rfl rfl rfl rfl rfl rfl ((VP.imp hlk ⟨AImp.refl _,lit2,trivial⟩)) ?_
  refine VSt.go tb_ok false [9] 200 rfl AllP.n ?_
  refine VSt.viewO (Vw.freezeC 0 [knP b l d] rfl rfl) ?_
  refine VSt.go tb_ok false [] 200 rfl AllP.n ?_
  refine VSt.cond rfl (fun h=>absurd h (by decide)) (fun _=>?_)
  refine VSt.go tb_ok false [] 200 rfl AllP.n ?_
  refine VSt.cc [] rfl rfl rfl rfl rfl rfl rfl rfl rfl rfl rfl (papers_ok (b:=b) (l:=l) (d:=d) hz hR) ?_
  rintro a L' (⟨h0,rfl,rfl⟩ | ⟨G,hpos,rfl,rfl,hG⟩)
  ·refine VSt.go tb_ok false [] 200 rfl AllP.n ?_
   refine VSt.pc rfl rfl rfl rfl rfl rfl rfl rfl ((Delete0_ok (b:=b) (l:=l) (d:=d) (day:=day) hz hR)) ?_
   refine VSt.putO 24 (.p (eInts (papL l d).isEmpty ((setL (papL l d)).filter fun x=>!conP l d day x))) rfl (by rw [h0];exact AImp.lst fun k hk=>absurd hk (Nat.not_lt_zero k)) ?_
   refine VSt.go tb_ok false [] 200 rfl AllP.n ?_
   exact EndsP.mk rfl rfl rfl rfl
  ·have hlen:(papL l d).length≤960:=papK_len hR d l.length
   refine VSt.go tb_ok false [] 200 rfl AllP.n ?_
   refine VSt.cc [(0,0)] rfl rfl rfl rfl rfl rfl rfl rfl rfl rfl rfl (Delete1_ok (b:=b) (l:=l) (d:=d) (day:=day) hz hR (setL_len (papL l d)) (by omega) hG) ?_
   rintro a L' ⟨g,rfl,rfl,hg⟩
   refine VSt.viewO (Vw.kp [24] [(0,0)] rfl) ?_
   refine VSt.viewO (Vw.freeze 0 rfl rfl ⟨by rw [Nat.zero_add];exact Nat.le_trans (List.length_filter_le _ _) (setL_len _),Nat.le_trans (List.length_filter_le _ _) (setL_len _),rfl⟩) ?_
   refine VSt.putO 24 (.p (eInts (papL l d).isEmpty ((setL (papL l d)).filter fun x=>!conP l d day x))) rfl (by rw [show (papL l d).isEmpty=false by cases h:papL l d <;> first | rfl | (rw [h] at hpos;exact absurd hpos (by decide))];exact AImp.lst fun k hk=>by rw [Nat.zero_add];show [PV.int .i64 (g k)]=_;rw [hg k hk]) ?_
   refine VSt.go tb_ok false [] 200 rfl AllP.n ?_
   exact EndsP.mk rfl rfl rfl rfl
 ·have eV:conV l day d=[]:=if_neg hE
  have eB:conB l day d=true:=if_neg hE
  rw [(hl b).1,(hl b).2] at hlk
  rw [eV,eB]
  refine VSt.pc rfl rfl rfl rfl rfl rfl rfl rfl ((VP.imp hlk ⟨AImp.refl _,lit2,trivial⟩)) ?_
  refine VSt.go tb_ok false [] 200 rfl AllP.n ?_
  refine VSt.cond rfl (fun _=>?_) (fun h=>?_)
  ·refine VSt.go tb_ok false [7] 200 rfl AllP.n ?_
   refine VSt.putO 6 (.p (eInts true [])) rfl AImp.nil ?_
   refine VSt.go tb_ok false [] 200 rfl AllP.n ?_
   exact EndsP.mk rfl rfl rfl rfl
  ·have h:(!(ask2 l day d==0))=false:=h
   exact absurd (by simpa using h) hE
theorem named_wth {l:List Int} (h:namedB l=true) {x:Int} (hx:x∈l):wth x 1 999=true:=by
 obtain ⟨k,hk,rfl⟩:=mem_getD (d:=0) hx
 unfold namedB at h
 rw [Bool.and_eq_true] at h
 have h1:=allB_iff.1 h.1 k hk
 unfold nameB at h1
 rw [Bool.and_eq_true] at h1
 exact h1.1
theorem pap_wth {l:List Opn} (hR:Reg l) {d x:Int} (hx:x∈papL l d):wth x 1 999=true:=by
 unfold papL papK at hx
 rw [List.take_length] at hx
 obtain ⟨o,ho,hx⟩:=List.mem_flatMap.1 hx
 have hO:=hR.vc.ok o (List.mem_filter.1 ho).1
 rcases List.mem_append.1 hx with hx | hx
 ·exact named_wth hO.inn hx
 ·exact named_wth hO.out hx
set_option maxHeartbeats 4000000 in
theorem rContent_ok {b:Bool} {l:List Opn} {day d:Int} (hz:SzsW l):VP (sE r) 22 [.p (eOpns b l),.agg [iv day,iv d]] (.tup [.p (eL (conV l day d)),iv (ask2 l day d)]):=by
 have hc:=rCheck_ok (r:=r) (b:=b) hz
 have hp:=rPapers_ok (r:=r) (b:=b) (d:=d) hz
 refine VP.of (fn:=Tryz.f22) tb_ok (wk_ok rfl) (by kernel_rfl) rfl rfl rfl ?_
 refine VSt.go tb_ok false [] 200 rfl AllP.n ?_
 have bad:ask2 l day d≠0→conV l day d=[]:=fun h=>if_neg h
 rcases ckReg_or l with ⟨hR,e⟩ | ⟨hR,e⟩
 ·have hz:=hR.szs
  have hV:=hR.cnt d nb
  have hn:(cnt l d nb).length≤60:=Vc.len hR rfl
  have ha:=ask2_day (day:=day) (d:=d) hR
  have hzc:=szs_cnt (d:=d) hz
  have haE:askE l d=if wth d 0 100000=true then 0 else 6:=if_pos hR
  rw [e] at hc
  refine VSt.pc rfl rfl rfl rfl rfl rfl rfl rfl (hc) ?_
  refine VSt.go tb_ok false [] 200 rfl AllP.n ?_
  refine VSt.splitO 13 rfl (fun g=>?_) (fun g=>?_)
  rotate_left
  ·exact absurd g (by decide)
  refine VSt.go tb_ok false [] 200 rfl (AllP.c (by show 0<_;omega) AllP.n) ?_
  refine VSt.pc rfl rfl rfl rfl rfl rfl rfl rfl ((rDay_ok day)) ?_
  refine VSt.go tb_ok false [] 200 rfl AllP.n ?_
  refine VSt.cond rfl (fun h2=>?_) (fun h2=>?_)
  ·rw [nt h2] at ha
   have ha:ask2 l day d=6:=ha
   rw [bad (by rw [ha];decide),ha]
   refine VSt.go tb_ok false [5] 200 rfl AllP.n ?_
   refine VSt.putO 4 (.p (eL [])) rfl AImp.nil ?_
   refine VSt.go tb_ok false [] 200 rfl AllP.n ?_
   exact EndsP.mk rfl rfl rfl rfl
  rw [nf h2] at ha
  refine VSt.go tb_ok false [] 200 rfl (AllP.c (Nat.le_refl _) AllP.n) ?_
  by_cases h3:wth d 0 100000=true
  ·rw [h3] at ha
   have ha:ask2 l day d=0:=ha
   rw [if_pos h3] at haE
   have eP:papV l d=setL (papL l d):=if_pos haE
   have hwp:wth day 0 100000=true:=nf h2
   rw [eP,haE] at hp
   refine VSt.pc rfl rfl rfl rfl rfl rfl rfl rfl (hp) ?_
   refine VSt.go tb_ok false [] 200 rfl AllP.n ?_
   refine VSt.cond rfl (fun h=>absurd h (by decide)) (fun _=>?_)
   refine VSt.go tb_ok false [] 200 rfl AllP.n ?_
   have hin:∀ k,k<(setL (papL l d)).length→insR (cnt l d nb) ((setL (papL l d)).getD k 0) day=insI l d ((setL (papL l d)).getD k 0) day:=fun k hk=>insR_eq hR (pap_wth hR (setL_mem.1 (getD_mem hk)))
   have hPl:(setL (papL l d)).length≤960:=Nat.le_trans (setL_len _) (papK_len hR d l.length)
   have eV:conV l day d=(setL (papL l d)).filter (fun x=>!conP l d day x):=if_pos ha
   rw [eV,ha]
   generalize setL (papL l d)=P at *
   refine VSt.viewC (Vw.freezeC 0 [.int .i64 day,.int .i64 d] rfl rfl) ?_
   refine VSt.viewC (Vw.adopt 0 1 (fL []) 3 rfl) ?_
   refine VSt.loopT (ti:=9) P.length [0,3,6] (fun k=>[(8,.acc true 0 1 ((P.take k).filter fun x=>!conP l d day x).length)]) (fun k=>[(0,.acc ((P.take k).filter fun x=>!conP l d day x).length 1 (fL ((P.take k).filter fun x=>!conP l d day x)) 3)]) (fun _=>True) rfl rfl (u0_cons rfl AImp.nilAcc u0_nil) (LImp.refl _) trivial (fun k hk _=>?_)
   have hlen:((P.take k).filter fun x=>!conP l d day x).length≤960:=Nat.le_trans (List.length_filter_le _ _) (Nat.le_trans (List.length_take_le' ..) hPl)
   refine VSt.go tb_ok false [] 200 rfl AllP.n ?_
   refine VSt.cond rfl (fun h=>?_) (fun h=>?_)
   ·have h:=nlt h
    have hk1:=take_snoc h
    have hie:=hin k h
    refine VSt.go tb_ok false [] 200 rfl (AllP.c (Nat.le_refl _) AllP.n) ?_
    refine VSt.pcD rfl rfl rfl rfl rfl rfl rfl rfl ((rcounting_ok (b:=b) hz hR (wth_iff.1 h3).2)) ?_
    refine VSt.go tb_ok false [] 200 rfl (AllP.c ‹_› (AllP.c rfl (AllP.c (by show 0<_;omega) AllP.n))) ?_
    refine VSt.pcD rfl rfl rfl rfl rfl rfl rfl rfl ((rinside_ok (b:=(cnt l d nb).isEmpty) (c:=cnt l d nb) (paper:=P.getD k 0) (day:=day) hzc hV hn)) ?_
    refine VSt.go tb_ok false [] 200 rfl AllP.n ?_
    refine VSt.cond rfl (fun h4=>?_) (fun h4=>?_)
    ·have h4:(insR (cnt l d nb) (P.getD k 0) day==1)=true:=h4
     rw [hie] at h4
     have e:(P.take (k+1)).filter (fun x=>!conP l d day x)=(P.take k).filter (fun x=>!conP l d day x)++[P.getD k 0]:=by
      rw [hk1,List.filter_append,List.filter_cons_of_pos (by unfold conP;rw [h4];rfl),List.filter_nil]
     have hN:=congrArg List.length e
     rw [List.length_append,List.length_singleton] at hN
     refine VSt.go tb_ok false [] 200 rfl (AllP.c ‹_› (AllP.c rfl (AllP.c (by omega) (AllP.c (by omega) (AllP.c (fun q hq=>match q,hq with | 0,_=>rfl) (AllP.c rfl (AllP.c rfl (AllP.c rfl (AllP.c (by unfold inR;(try simp only [Int.ofNat_eq_natCast]);omega) AllP.n))))))))) ?_
     refine ⟨h,?_,trivial⟩
     exact Wk.vw (ps:=[(0,1)]) ⟨rfl,rfl,(by repeat (first | exact wf_nil | refine wf_back rfl rfl rfl ?_ | refine wf_imp rfl rfl AImp.litC ?_ | refine wf_imp rfl rfl (AImp.acc hN.symm (fun _=>rfl)) ?_)),_,rfl,⟨rfl,BImp.acc hN.symm (fun x hx=>by rw [e];exact app_int _ _ x hx),trivial⟩⟩
    ·have h4:(insR (cnt l d nb) (P.getD k 0) day==1)=false:=h4
     rw [hie] at h4
     have e:(P.take (k+1)).filter (fun x=>!conP l d day x)=(P.take k).filter (fun x=>!conP l d day x):=by
      rw [hk1,List.filter_append,List.filter_cons_of_neg (by unfold conP;rw [h4];decide),List.filter_nil,List.append_nil]
     refine VSt.go tb_ok false [] 200 rfl (AllP.c (by unfold inR;(try simp only [Int.ofNat_eq_natCast]);omega) AllP.n) ?_
     refine ⟨h,?_,trivial⟩
     dsimp only
     rw [e]
     refine Wk.vw (ps:=[(0,0)]) ⟨rfl,rfl,(by repeat (first | exact wf_nil | refine wf_back rfl rfl rfl ?_)),_,rfl,((LImp.refl _))⟩
   ·have h:k=P.length:=by have:=nge h;omega
    subst h
    rw [List.take_length]
    refine VSt.go tb_ok false [54] 200 rfl AllP.n ?_
    refine VSt.viewO (Vw.kp [8] [(0,0)] rfl) ?_
    refine VSt.viewO (Vw.freezeA 0 rfl rfl ⟨Nat.le_refl _,rfl⟩) ?_
    refine VSt.go tb_ok false [] 200 rfl AllP.n ?_
    refine EndsP.mk rfl rfl rfl ?_
    have e1:=acc_eInts (j:=0) (l:=P.filter fun x=>!conP l d day x) rfl
    show AV.tup [_,_]=AV.tup [_,_]
    rw [show AV.p (eL (P.filter fun x=>!conP l d day x))=_ from e1.symm]
    rfl
  ·rw [show wth d 0 100000=false by simpa using h3] at ha
   have ha:ask2 l day d=6:=ha
   rw [if_neg h3] at haE
   have eP:papV l d=[]:=if_neg (by rw [haE];decide)
   rw [eP,haE] at hp
   rw [bad (by rw [ha];decide),ha]
   refine VSt.pc rfl rfl rfl rfl rfl rfl rfl rfl (hp) ?_
   refine VSt.go tb_ok false [] 200 rfl AllP.n ?_
   refine VSt.cond rfl (fun _=>?_) (fun h=>absurd h (by decide))
   refine VSt.go tb_ok false [5] 200 rfl AllP.n ?_
   refine VSt.putO 4 (.p (eL [])) rfl AImp.nil ?_
   refine VSt.go tb_ok false [] 200 rfl AllP.n ?_
   exact EndsP.mk rfl rfl rfl rfl
 ·have ha:ask2 l day d=61:=if_neg hR
  have haE:askE l d=61:=if_neg hR
  have eP:papV l d=[]:=if_neg (by rw [haE];decide)
  rw [e] at hc
  rw [eP,haE] at hp
  rw [bad (by rw [ha];decide),ha]
  refine VSt.pc rfl rfl rfl rfl rfl rfl rfl rfl (hc) ?_
  refine VSt.go tb_ok false [] 200 rfl AllP.n ?_
  refine VSt.splitO 13 rfl (fun g=>?_) (fun g=>?_)
  ·exact absurd g (by decide)
  refine VSt.go tb_ok false [] 200 rfl (AllP.c (Nat.le_refl _) AllP.n) ?_
  refine VSt.pc rfl rfl rfl rfl rfl rfl rfl rfl (hp) ?_
  refine VSt.go tb_ok false [] 200 rfl AllP.n ?_
  refine VSt.cond rfl (fun _=>?_) (fun h=>absurd h (by decide))
  refine VSt.go tb_ok false [5] 200 rfl AllP.n ?_
  refine VSt.putO 4 (.p (eL [])) rfl AImp.nil ?_
  refine VSt.go tb_ok false [] 200 rfl AllP.n ?_
  exact EndsP.mk rfl rfl rfl rfl
end Go.Proofs.YtbieflpgjmgaiaaGreat
