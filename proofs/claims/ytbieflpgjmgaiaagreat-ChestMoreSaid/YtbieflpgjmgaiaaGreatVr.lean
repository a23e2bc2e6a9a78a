/- The program's ChestMore returns true for all numbers without an exception and without changing its arguments: a part of the proof. -/
import Derived.Test.YtbieflpgjmgaiaaGreatVq
set_option linter.all false
/- Walks: the pairs, where some are barred. -/
set_option maxRecDepth 100000
namespace Go.Proofs.YtbieflpgjmgaiaaGreat
variable {r:Rm}
def kown (b:Bool) (l:List Opn) (d:Int) (bar:Nat→Bool):VS:=[(0,.cells [.p (eOpns b l),iv d,.map 1] 98),(1,.mapA none (barP bar) [])]
theorem countingB_ok (b:Bool) (l:List Opn) (d:Int) (bar:Nat→Bool):VC (sE r) [0,1] 73 [.ref 0 0] (kown b l d bar) (fun a L=>a = .fn 111 [] [.ref 2 0]∧L=[(2,.cells [.ref 0 0] 70),(0,.cells [.p (eOpns b l),iv d,.map 1] 98),(1,.mapA none (barP bar) [])]):=by
 refine VC.of0 (fn:=Tryz.f73) tb_ok (wk_ok rfl) (by kernel_rfl) rfl rfl ?_
 refine VSt.go tb_ok false [] 200 rfl AllP.n ?_
 exact ⟨rfl,_,rfl,rfl,rfl⟩
set_option maxHeartbeats 4000000 in
theorem pairsB_ok {b:Bool} {l:List Opn} {d:Int} {bar:Nat→Bool} (hz:Szs l) (hR:Reg l):VC (sE r) [] 84 [.ref 0 0] (kown b l d bar) (fun a L=>a = .p (ePairs (cross (cnt l d bar)))∧L=[]):=by
 have hv:∀ k,k<l.length→(nth l k).source=Int.ofNat (src (nth l k)):=fun k hk=>(hR.ok k hk).src
 have hl:=hR.len
 refine VC.of (fn:=Tryz.f84) tb_ok (wk_ok rfl) (by kernel_rfl) rfl rfl ?_
 refine VSt.go tb_ok false [] 200 rfl AllP.n ?_
 refine VSt.cc [(0,0),(1,1)] rfl rfl rfl rfl rfl rfl rfl rfl rfl rfl rfl (countingB_ok b l d bar) ?_
 rintro a L' ⟨rfl,rfl⟩
 refine VSt.go tb_ok false [] 200 rfl AllP.n ?_
 refine VSt.viewC (Vw.kp [1,3,7] [(0,0),(1,1),(2,2),(3,3),(5,6)] rfl) ?_
 refine VSt.viewC (Vw.adopt 4 2 (fP []) 69 rfl) ?_
 refine VSt.viewC (Wk.vw (ps:=[(0,0),(1,1),(2,2),(3,3),(4,4),(5,5)]) (F0:=[(1,.ref 2 0),(3,.ref 3 0),(7,.fn 111 [] [.ref 5 0])]) (L0:=[(0,.cells [.p (eOpns b l),iv d,.map 1] 98),(1,.mapA none (barP bar) []),(2,.cells [.ref 0 0] 70),(3,.cells [.acc true 4 2 0] 51),(4,.acc 0 2 (fP []) 69),(5,.cells [.ref 0 0] 70)]) ⟨rfl,rfl,(by repeat (first | exact wf_nil | refine wf_back rfl rfl rfl ?_)),_,rfl,⟨rfl,BImp.refl _,rfl,BImp.refl _,rfl,BImp.refl _,rfl,BImp.cell1 AImp.nilAcc,rfl,BImp.refl _,rfl,BImp.refl _,trivial⟩⟩) ?_
 refine VSt.rangeFuncG [(0,6),(1,5),(2,0),(3,1),(4,3),(5,4),(6,2)] (stc:=[0,1,2,3,4,6]) rfl rfl rfl rfl rfl rfl rfl rfl (cnt1B_ok (b:=b) (l:=l) (d:=d) (bar:=bar) (by omega) hv (G1:=fun k=>(8,.agg ((eOpn (nth l k)).map .p))::[(1,.ref 6 0),(3,.ref 4 0),(7,.fn 111 [] [.ref 1 0])]) [4,6]
  (fun k L=>L=kmem b l d bar++(memP 4 5 (crK l (fun o=>counts o d && !bar (src o)) k)++[(6,.cells [.ref 2 0] 70)])) (fun _=>False) rfl (fun k L h=>⟨_,h⟩) (fun _=>rfl) ?_ ?_) ?_
 ·rintro k L hk hc rfl
  rw [crK_f (p:=(fun o=>counts o d && !bar (src o))) hk hc]
 ·rintro k L hk hc rfl
  refine VSt.go tb_ok false [4] 200 rfl AllP.n ?_
  refine VSt.aside (eOpn (nth l k)) tb_ok rfl rfl rfl rfl rfl rfl rfl rfl rfl rfl rfl ?_
  refine VSt.go tb_ok false [] 200 rfl AllP.n ?_
  refine ⟨rfl,_,rfl,?_⟩
  have hlen:=crK_len (p:=(fun o=>counts o d && !bar (src o))) (k:=k) hl
  refine VSt.go tb_ok false [] 200 rfl AllP.n ?_
  refine VSt.cc [(0,2),(1,3)] rfl rfl rfl rfl rfl rfl rfl rfl rfl rfl rfl (countingB_ok b l d bar) ?_
  rintro a L' ⟨rfl,rfl⟩
  refine VSt.go tb_ok false [] 200 rfl AllP.n ?_
  refine VSt.viewC (Vw.kp [3,4,10] [(0,0),(1,1),(2,2),(3,3),(4,4),(5,5),(6,6),(7,9)] rfl) ?_
  refine VSt.rangeFuncG [(0,8),(1,7),(2,2),(3,3),(4,4),(5,5)] (stc:=[0,1,2,3,4]) rfl rfl rfl rfl rfl rfl rfl rfl (cnt1B_ok (b:=b) (l:=l) (d:=d) (bar:=bar) (by omega) hv (G1:=fun j=>(11,.agg ((eOpn (nth l j)).map .p))::[(3,.ref 4 0),(4,.p (.fp (eOpn (nth l k)) 0)),(10,.fn 111 [] [.ref 1 0])]) [4]
   (fun j L=>L=kmem b l d bar++memP 4 5 (crK l (fun o=>counts o d && !bar (src o)) k++rowP l (fun o=>counts o d && !bar (src o)) (nth l k) j)) (fun _=>False) (by rw [show rowP l (fun o=>counts o d && !bar (src o)) (nth l k) 0=[] from rfl,List.append_nil];rfl) (fun j L h=>⟨_,h⟩) (fun _=>rfl) ?_ ?_) ?_
  ·rintro j L hj hcj rfl
   unfold rowP
   rw [preL_f hj (by show ((counts (nth l j) d && !bar (src (nth l j)))&&_)=_;rw [hcj];rfl)]
  ·rintro j L hj hcj rfl
   refine VSt.go tb_ok false [5] 200 rfl AllP.n ?_
   refine VSt.aside (eOpn (nth l j)) tb_ok rfl rfl rfl rfl rfl rfl rfl rfl rfl rfl rfl ?_
   refine VSt.go tb_ok false [] 200 rfl AllP.n ?_
   refine ⟨rfl,_,rfl,?_⟩
   have hlen2:(crK l (fun o=>counts o d && !bar (src o)) k++rowP l (fun o=>counts o d && !bar (src o)) (nth l k) j).length≤3700:=by
    rw [List.length_append]
    have:(rowP l (fun o=>counts o d && !bar (src o)) (nth l k) j).length≤l.length:=preL_len
    omega
   have yes:isP (nth l k) (nth l j)=true→crK l (fun o=>counts o d && !bar (src o)) k++rowP l (fun o=>counts o d && !bar (src o)) (nth l k) (j+1)=(crK l (fun o=>counts o d && !bar (src o)) k++rowP l (fun o=>counts o d && !bar (src o)) (nth l k) j)++[(src (nth l k),src (nth l j))]:=fun h=>by
    unfold rowP
    rw [preL_t hj (by show ((counts (nth l j) d && !bar (src (nth l j)))&&_)=_;rw [hcj,h];rfl),List.append_assoc]
   have no:isP (nth l k) (nth l j)=false→rowP l (fun o=>counts o d && !bar (src o)) (nth l k) (j+1)=rowP l (fun o=>counts o d && !bar (src o)) (nth l k) j:=fun h=>by
    unfold rowP
    rw [preL_f hj (by show ((counts (nth l j) d && !bar (src (nth l j)))&&_)=_;rw [hcj,h];rfl)]
   refine VSt.go tb_ok false [] 200 rfl AllP.n ?_
   refine VSt.splitO 15 rfl (fun h1=>?_) (fun h1=>?_)
   ·refine VSt.go tb_ok false [] 200 rfl AllP.n ?_
    refine VSt.splitO 20 rfl (fun h2=>?_) (fun h2=>?_)
    ·refine VSt.go tb_ok false [] 200 rfl AllP.n ?_
     refine VSt.pc rfl rfl rfl rfl rfl rfl rfl rfl ((clash_ok (a:=nth l k) (b:=nth l j) (hz.each k hk) (hz.each j hj))) ?_
     refine VSt.go tb_ok false [] 200 rfl AllP.n ?_
     refine VSt.cond rfl (fun h3=>?_) (fun h3=>?_)
     ·have e:=yes (by unfold isP;rw [h1,h2,show clB (nth l k) (nth l j)=true from h3];rfl)
      have hN:(crK l (fun o=>counts o d && !bar (src o)) k++rowP l (fun o=>counts o d && !bar (src o)) (nth l k) (j+1)).length=(crK l (fun o=>counts o d && !bar (src o)) k++rowP l (fun o=>counts o d && !bar (src o)) (nth l k) j).length+1:=by rw [e,List.length_append];rfl
      refine VSt.go tb_ok false [] 200 rfl (AllP.c (by omega) (AllP.c (by omega) (AllP.c (fun q hq=>match q,hq with | 0,_=>rfl) (AllP.c rfl (AllP.c rfl (AllP.c rfl AllP.n)))))) ?_
      exact .inl ⟨rfl,[],_,by refine Wk.vw (ps:=[(0,0),(1,1),(2,2),(3,3),(4,4),(5,6)]) ⟨rfl,rfl,(by repeat (first | exact wf_nil | refine wf_back rfl rfl rfl ?_)),_,rfl,(⟨rfl,BImp.refl _,rfl,BImp.refl _,rfl,BImp.refl _,rfl,BImp.refl _,rfl,BImp.cell1 (AImp.acc hN.symm (fun _=>rfl)),rfl,BImp.acc hN.symm (fun x hx=>by rw [e];exact app_pair _ _ (hR.ok k hk).src (hR.ok j hj).src x hx),trivial⟩)⟩,rfl⟩
     ·have e:=no (by unfold isP;rw [h1,h2,show clB (nth l k) (nth l j)=false from h3];rfl)
      refine VSt.go tb_ok false [] 200 rfl AllP.n ?_
      rw [←e]
      exact .inl ⟨rfl,[],_,by refine Wk.vw (ps:=[(0,0),(1,1),(2,2),(3,3),(4,4),(5,5)]) ⟨rfl,rfl,(by repeat (first | exact wf_nil | refine wf_back rfl rfl rfl ?_)),_,rfl,((LImp.refl _))⟩,rfl⟩
    ·have e:=no (by unfold isP;rw [h1,h2];rfl)
     refine VSt.go tb_ok false [] 200 rfl AllP.n ?_
     rw [←e]
     exact .inl ⟨rfl,[],_,by refine Wk.vw (ps:=[(0,0),(1,1),(2,2),(3,3),(4,4),(5,5)]) ⟨rfl,rfl,(by repeat (first | exact wf_nil | refine wf_back rfl rfl rfl ?_)),_,rfl,((LImp.refl _))⟩,rfl⟩
   ·have e:=no (by unfold isP;rw [h1];rfl)
    refine VSt.go tb_ok false [] 200 rfl AllP.n ?_
    rw [←e]
    exact .inl ⟨rfl,[],_,by refine Wk.vw (ps:=[(0,0),(1,1),(2,2),(3,3),(4,4),(5,5)]) ⟨rfl,rfl,(by repeat (first | exact wf_nil | refine wf_back rfl rfl rfl ?_)),_,rfl,((LImp.refl _))⟩,rfl⟩
  ·rintro a L' (⟨L,rfl,rfl⟩ | ⟨G2,L,hJ,rfl⟩)
   rotate_left
   ·exact hJ.elim
   refine ⟨_,_,_,_,_,_,_,_,rfl,rfl,rfl,?_⟩
   rw [←crK_t (p:=(fun o=>counts o d && !bar (src o))) hk hc]
   refine VSt.go tb_ok false [] 200 rfl AllP.n ?_
   exact .inl ⟨rfl,[],_,by refine Wk.vw (ps:=[(0,0),(1,1),(2,2),(3,3),(4,4),(5,5),(6,6)]) ⟨rfl,rfl,(by repeat (first | exact wf_nil | refine wf_back rfl rfl rfl ?_)),_,rfl,((LImp.refl _))⟩,rfl⟩
 ·rintro a L' (⟨L,rfl,rfl⟩ | ⟨G2,L,hJ,rfl⟩)
  rotate_left
  ·exact hJ.elim
  refine ⟨_,_,_,_,_,_,_,_,rfl,rfl,rfl,?_⟩
  rw [crK_all]
  refine VSt.viewC (Vw.kp [3] [(3,3),(4,4)] rfl) ?_
  refine VSt.viewC (Vw.freezeA 4 rfl rfl ⟨Nat.le_refl _,rfl⟩) ?_
  refine VSt.go tb_ok false [] 200 rfl AllP.n ?_
  exact ⟨rfl,_,[],.p (ePairs (cross (cnt l d bar))),[],rfl,⟨rfl,rfl,wf_imp rfl rfl (AImp.of_eq (acc_ePairs rfl)) wf_nil,_,rfl,trivial⟩,rfl,rfl⟩
end Go.Proofs.YtbieflpgjmgaiaaGreat
