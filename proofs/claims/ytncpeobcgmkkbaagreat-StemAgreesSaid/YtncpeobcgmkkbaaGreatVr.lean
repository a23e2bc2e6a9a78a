/- The program's StemAgrees returns true for every stem, one and number, valid or not, without an exception and without changing its arguments: a part of the proof. -/
import Derived.Test.YtncpeobcgmkkbaaGreatVq
import Derived.Test.YtncpeobcgmkkbaaGreatVp
import Derived.Test.YtncpeobcgmkkbaaGreatVn
set_option linter.all false
/- Walks: the reference's fewest, known, Fewest. -/
set_option maxRecDepth 100000
namespace Go.Proofs.YtncpeobcgmkkbaaGreat
variable {r:Tr (List Value×TypeId)}
theorem refC_bd {s:Stem} (hv:s.Valid) (i k:Nat):0≤refC s i k∧refC s i k≤farZ:=by
 refine ⟨refC_ge hv i k,?_⟩
 unfold refC
 split
 ·rename_i h
  rw [cellM_cost h.2.2]
  have:=(costI_bd hv (i:=i) (k:=k) h.1).2
  unfold farZ;omega
 ·exact Int.le_refl _
theorem onlyC_bd {c:Nat→Nat→Int} (hc:∀ i k,0≤c i k∧c i k≤farZ) (P:Int) (k i j:Nat):0≤onlyC c P k i j∧onlyC c P k i j≤farZ:=by
 unfold onlyC
 cases (Nat.beq j k && !(Int.ofNat i==P)) with
 | true=>exact ⟨by show (0:Int)≤farZ;decide,Int.le_refl _⟩
 | false=>exact hc i j
theorem fewest_ok {n:Nat} {c:Nat→Nat→Int} (hn:n≤7) (hc:∀ i k,0≤c i k∧c i k≤farZ) :
  VP (sE r) 56 [treeV n c] (iv (fewM c n)):=by
 refine VP.of (fn:=Tryz.f56) tb_ok rfl (by kernel_rfl) rfl rfl rfl ?_
 refine VSt.go tb_ok false [] 200 rfl AllP.n ?_
 refine VSt.pc rfl rfl rfl rfl rfl rfl rfl rfl ((Least_ok hn hc)) ?_
 refine VSt.go tb_ok false [] 200 rfl AllP.n ?_
 refine VSt.viewC (Vw.kp [3,7,8,9] [] rfl) ?_
 refine VSt.rangeT tb_ok n (by omega) [7] (fun k=>[(3,iv (fewF (leastM c n) k))]) (fun _=>[]) (fun _=>True) rfl rfl rfl (fun _=>rfl) rfl rfl (u0_cons rfl (AImp.refl _) u0_nil) trivial trivial (fun k hk _=>?_) (fun _=>?_)
 ·refine VSt.go tb_ok false [] 200 rfl (AllP.c ‹_› (AllP.c rfl AllP.n)) ?_
  refine ⟨?_,trivial⟩
  refine Wk.vw (ps:=[]) ⟨rfl,rfl,(by repeat (first | exact wf_nil | refine wf_back rfl rfl rfl ?_)),_,rfl,(trivial)⟩
 ·refine VSt.go tb_ok false [] 200 rfl AllP.n ?_
  exact EndsP.mk rfl rfl rfl rfl
def knownT (s:Stem):AV:=if studE s=0 then treeV s.copies.length (refC s) else .agg [.p nilP]
def knownN (s:Stem):Int:=if studE s=0 then (searchS s).cost else 0
theorem knownT_only (s:Stem):AV.only (fun _=>false) (knownT s)=true:=by
 unfold knownT
 split <;> rfl
theorem known_ok {s:Stem} (hs:s.Ok):VP (sE r) 53 [.agg ((eStem s).map .p)] (.tup [knownT s,iv (knownN s),iv (studE s)]):=by
 have ho:AV.only (fun _=>false) (.tup [knownT s,iv (knownN s),iv (studE s)])=true:=by
  show (AV.only (fun _=>false) (knownT s)&&_)=true
  rw [knownT_only];rfl
 refine VP.of (fn:=Tryz.f53) tb_ok rfl (by kernel_rfl) rfl rfl ho ?_
 refine VSt.go tb_ok false [] 200 rfl AllP.n ?_
 refine VSt.pc rfl rfl rfl rfl rfl rfl rfl rfl ((rCheck_ok s hs)) ?_
 refine VSt.go tb_ok false [] 200 rfl AllP.n ?_
 refine VSt.cond rfl (fun h=>?_) (fun h=>?_)
 ·have h:(!(ckStem s==0))=true:=h
  have h0:¬ ckStem s=0:=by simpa using h
  have e:studE s=ckStem s:=if_neg h0
  refine VSt.go tb_ok false [] 200 rfl AllP.n ?_
  refine ⟨rfl,_,rfl,rfl,?_⟩
  rw [show knownT s = .agg [.p nilP] from if_neg (by rw [e];exact h0),show knownN s=0 from if_neg (by rw [e];exact h0),e]
  exact AImp.refl _
 ·have h:(!(ckStem s==0))=false:=h
  have h0:ckStem s=0:=by simpa using h
  have hv:=valid_of h0
  refine VSt.go tb_ok false [] 200 rfl AllP.n ?_
  refine VSt.pc rfl rfl rfl rfl rfl rfl rfl rfl ((TreeOf_ok hs hv)) ?_
  refine VSt.go tb_ok false [] 200 rfl AllP.n ?_
  refine VSt.pc rfl rfl rfl rfl rfl rfl rfl rfl ((fewest_ok hv.c (refC_bd hv))) ?_
  refine VSt.go tb_ok false [] 200 rfl AllP.n ?_
  by_cases h2:(searchS s).least=[]
  ·have e:studE s=45:=by unfold studE;rw [if_pos h0,if_pos h2]
   have ef:=few_none hv h2
   refine VSt.cond rfl (fun h3=>?_) (fun h3=>?_)
   ·refine VSt.go tb_ok false [] 200 rfl AllP.n ?_
    refine ⟨rfl,_,rfl,rfl,?_⟩
    rw [show knownT s = .agg [.p nilP] from if_neg (by rw [e];decide),show knownN s=0 from if_neg (by rw [e];decide),e]
    exact AImp.refl _
   ·have h3:decide (1000000≤fewM (refC s) s.copies.length)=false:=h3
    rw [ef] at h3;exact absurd h3 (by decide)
  ·have e:studE s=0:=by unfold studE;rw [if_pos h0,if_neg h2]
   have ef:=few_all hv h2
   have hf:=cost_far hv h2
   refine VSt.cond rfl (fun h3=>?_) (fun h3=>?_)
   ·have h3:decide (1000000≤fewM (refC s) s.copies.length)=true:=h3
    have h3:=of_decide_eq_true h3
    rw [ef] at h3
    unfold farZ at hf
    omega
   ·refine VSt.go tb_ok false [] 200 rfl AllP.n ?_
    refine ⟨rfl,_,rfl,rfl,?_⟩
    rw [show knownT s=treeV s.copies.length (refC s) from if_pos e,show knownN s=(searchS s).cost from if_pos e,e,ef]
    exact AImp.refl _
theorem rFewest_ok {s:Stem} (hs:s.Ok):VP (sE r) 9 [.agg ((eStem s).map .p)] (.tup [iv (knownN s),iv (studE s)]):=by
 have hk:=known_ok (r:=r) hs
 refine VP.of (fn:=Tryz.f9) tb_ok rfl (by kernel_rfl) rfl rfl rfl ?_
 refine VSt.go tb_ok false [] 200 rfl AllP.n ?_
 by_cases h:studE s=0
 ·rw [show knownT s=treeV s.copies.length (refC s) from if_pos h] at hk
  refine VSt.pc rfl rfl rfl rfl rfl rfl rfl rfl (hk) ?_
  refine VSt.go tb_ok false [] 200 rfl AllP.n ?_
  exact EndsP.mk rfl rfl rfl rfl
 ·rw [show knownT s = .agg [.p nilP] from if_neg h] at hk
  refine VSt.pc rfl rfl rfl rfl rfl rfl rfl rfl (hk) ?_
  refine VSt.go tb_ok false [] 200 rfl AllP.n ?_
  exact EndsP.mk rfl rfl rfl rfl
end Go.Proofs.YtncpeobcgmkkbaaGreat
/- Walks: the reference's CheckPedigree, CostOf. -/
set_option maxRecDepth 100000
namespace Go.Proofs.YtncpeobcgmkkbaaGreat
variable {r:Tr (List Value×TypeId)}
theorem good_zero {s:Stem} (hv:s.Valid) {l:List Int} {k:Nat} (hk:badP s l k=false):(l.getD k 0==0)=decide (parF s l k<0):=by
 cases h:l.getD k 0==0 with
 | true =>
  have h:l.getD k 0=0:=by simpa using h
  have h1:=place_zero hv
  unfold parF
  rw [h,decide_eq_true h1]
 | false =>
  unfold badP at hk
  rw [h] at hk
  have h1:decide (parF s l k<0)=false:=by
   cases hd:decide (parF s l k<0) with
   | false=>rfl
   | true=>rw [hd] at hk;exact absurd hk (by simp)
  rw [h1]
open Classical in
set_option maxHeartbeats 4000000 in
theorem rCheckPed_ok {s:Stem} {b:Bool} {l:List Int} (hs:s.Ok) (hl:l.length<9223372036854775808):VP (sE r) 19 [.agg ((eStem s).map .p),.p (eInts b l)] (iv (pedE s l)):=by
 refine VP.of (fn:=Tryz.f19) tb_ok rfl (by kernel_rfl) rfl rfl rfl ?_
 refine VSt.go tb_ok false [] 200 rfl AllP.n ?_
 refine VSt.pc rfl rfl rfl rfl rfl rfl rfl rfl ((rCheck_ok s hs)) ?_
 refine VSt.go tb_ok false [] 200 rfl AllP.n ?_
 refine VSt.cond rfl (fun h=>?_) (fun h=>?_)
 ·have h:(!(ckStem s==0))=true:=h
  have h0:¬ ckStem s=0:=by simpa using h
  refine VSt.go tb_ok false [] 200 rfl AllP.n ?_
  refine EndsP.mk rfl rfl rfl ?_
  rw [show pedE s l=ckStem s from if_neg h0];rfl
 have h:(!(ckStem s==0))=false:=h
 have h0:ckStem s=0:=by simpa using h
 have hv:=valid_of h0
 have hn:s.copies.length≤7:=hv.c
 have no:¬ isPed s l→pedE s l=43:=fun h=>by unfold pedE;rw [if_pos h0,if_neg h]
 refine VSt.go tb_ok false [] 200 rfl AllP.n ?_
 refine VSt.cond rfl (fun h2=>?_) (fun h2=>?_)
 ·have h2:(!(Int.ofNat l.length==Int.ofNat s.copies.length))=true:=h2
  have h3:¬ l.length=s.copies.length:=fun e=>by rw [e,beq_self_eq_true] at h2;cases h2
  refine VSt.go tb_ok false [] 200 rfl AllP.n ?_
  refine EndsP.mk rfl rfl rfl ?_
  rw [no fun h=>h3 h.1.1];rfl
 have h2:(!(Int.ofNat l.length==Int.ofNat s.copies.length))=false:=h2
 have hlen:l.length=s.copies.length:=by
  have:Int.ofNat l.length=Int.ofNat s.copies.length:=by simpa using h2
  exact Int.ofNat_inj.1 this
 refine VSt.go tb_ok false [] 200 rfl AllP.n ?_
 refine VSt.viewC (Vw.freezeC 0 (eStem s) rfl rfl) ?_
 refine VSt.rangeT tb_ok l.length hl [1,2,23] (fun k=>[(6,nv (rootsN (parF s l) k))]) (fun _=>[]) (fun k=>∀ i,i<k→badP s l i=false) rfl rfl rfl (fun _=>rfl) rfl rfl (u0_cons rfl (AImp.refl _) u0_nil) trivial (fun i hi=>absurd hi (Nat.not_lt_zero i)) (fun k hk hg=>?_) (fun hg=>?_)
 ·have bad:badP s l k=true→pedE s l=43:=fun hb=>no fun hp=>by rw [hp.1.2 k (by omega)] at hb;cases hb
  have ok:badP s l k=false→∀ i,i<k+1→badP s l i=false:=fun hb i hi=>by
   by_cases e:i=k
   ·rw [e];exact hb
   ·exact hg i (by omega)
  have hk2:k<s.copies.length:=by omega
  refine VSt.go tb_ok false [] 200 rfl (AllP.c ‹_› (AllP.c rfl AllP.n)) ?_
  refine VSt.cond rfl (fun g1=>?_) (fun g1=>?_)
  ·have g1:(l.getD k 0==0)=true:=g1
   have hb:badP s l k=false:=by unfold badP;rw [g1];rfl
   have hz:=good_zero hv hb
   rw [g1] at hz
   have hz2:=of_decide_eq_true hz.symm
   have hrl:=rootsN_le (parF s l) k
   refine VSt.go tb_ok false [6] 200 rfl (AllP.c (by unfold inR;(try simp only [Int.ofNat_eq_natCast]);omega) AllP.n) ?_
   refine VSt.putO 33 (nv (rootsN (parF s l) (k+1))) rfl (iv_nv (by rw [rootsN_step,if_pos hz2];rfl)) ?_
   refine VSt.go tb_ok false [] 200 rfl AllP.n ?_
   refine ⟨?_,ok hb⟩
   refine Wk.vw (ps:=[]) ⟨rfl,rfl,(by repeat (first | exact wf_nil | refine wf_back rfl rfl rfl ?_)),_,rfl,(trivial)⟩
  ·have g1:(l.getD k 0==0)=false:=g1
   refine VSt.go tb_ok false [] 200 rfl AllP.n ?_
   refine VSt.pcD rfl rfl rfl rfl rfl rfl rfl rfl ((place_ok s (l.getD k 0) hs.c)) ?_
   refine VSt.go tb_ok false [] 200 rfl AllP.n ?_
   refine VSt.splitD 38 rfl (fun g2=>?_) (fun g2=>?_)
   ·have g2:decide (parF s l k<0)=true:=g2
    refine VSt.go tb_ok false [] 200 rfl AllP.n ?_
    refine EndsP.mk rfl rfl rfl ?_
    rw [bad (by unfold badP;rw [g1,g2];rfl)];rfl
   have g2:decide (parF s l k<0)=false:=g2
   refine VSt.go tb_ok false [] 200 rfl AllP.n ?_
   refine VSt.pcD rfl rfl rfl rfl rfl rfl rfl rfl ((place_ok s (l.getD k 0) hs.c)) ?_
   refine VSt.go tb_ok false [] 200 rfl AllP.n ?_
   refine VSt.splitD 45 rfl (fun g3=>?_) (fun g3=>?_)
   ·have g3:(parF s l k==Int.ofNat k)=true:=g3
    refine VSt.go tb_ok false [] 200 rfl AllP.n ?_
    refine EndsP.mk rfl rfl rfl ?_
    rw [bad (by unfold badP;rw [g1,g2,g3];rfl)];rfl
   have g3:(parF s l k==Int.ofNat k)=false:=g3
   refine VSt.go tb_ok false [] 200 rfl (AllP.c ‹_› (AllP.c rfl AllP.n)) ?_
   refine VSt.pcD rfl rfl rfl rfl rfl rfl rfl rfl ((never_ok s (l.getD k 0) (idAt s k) hs.n)) ?_
   refine VSt.go tb_ok false [] 200 rfl AllP.n ?_
   refine VSt.cond rfl (fun g4=>?_) (fun g4=>?_)
   ·have g4:isNever s (l.getD k 0) (idAt s k)=true:=g4
    refine VSt.go tb_ok false [] 200 rfl AllP.n ?_
    refine EndsP.mk rfl rfl rfl ?_
    rw [bad (by unfold badP;rw [g1,g2,g3,g4];rfl)];rfl
   have g4:isNever s (l.getD k 0) (idAt s k)=false:=g4
   have hb:badP s l k=false:=by unfold badP;rw [g1,g2,g3,g4];rfl
   have hz2:=of_decide_eq_false g2
   refine VSt.putC 6 (nv (rootsN (parF s l) (k+1))) rfl (iv_nv (by rw [rootsN_step,if_neg hz2];rfl)) ?_
   refine VSt.go tb_ok false [] 200 rfl AllP.n ?_
   refine ⟨?_,ok hb⟩
   refine Wk.vw (ps:=[]) ⟨rfl,rfl,(by repeat (first | exact wf_nil | refine wf_back rfl rfl rfl ?_)),_,rfl,(trivial)⟩
 ·have hgood:goodP s l:=⟨hlen,fun k hk=>hg k (by omega)⟩
  have hlt:∀ k,parF s l k<s.copies.length:=fun k=>place_lt s _
  refine VSt.go tb_ok false [] 200 rfl AllP.n ?_
  refine VSt.cond rfl (fun h3=>?_) (fun h3=>?_)
  ·have h3:(!(Int.ofNat (rootsN (parF s l) l.length)==1))=true:=h3
   refine VSt.go tb_ok false [] 200 rfl AllP.n ?_
   refine EndsP.mk rfl rfl rfl ?_
   rw [no fun hp=>by
    have h4:=hp.2
    unfold rootedB at h4
    rw [Bool.and_eq_true] at h4
    rw [hlen,h4.2] at h3
    cases h3];rfl
  have h3:(!(Int.ofNat (rootsN (parF s l) l.length)==1))=false:=h3
  have h3:(Int.ofNat (rootsN (parF s l) s.copies.length)==1)=true:=by rw [←hlen];simpa using h3
  refine VSt.go tb_ok false [] 200 rfl AllP.n ?_
  refine VSt.rangeT tb_ok l.length hl [1,2,59] (fun _=>[]) (fun _=>[]) (fun k=>∀ i,i<k→parF s l (walkU (parF s l) s.copies.length i)<0) rfl rfl rfl (fun _=>rfl) rfl rfl u0_nil trivial (fun i hi=>absurd hi (Nat.not_lt_zero i)) (fun k hk hg2=>?_) (fun hg2=>?_)
  ·refine VSt.go tb_ok false [] 200 rfl AllP.n ?_
   refine VSt.loop (α :=Nat) (fun j F' L=>∃ a,j≤l.length∧a<l.length∧walkU (parF s l) (s.copies.length - j) a=walkU (parF s l) s.copies.length k∧F'=[(1,.p (eInts b l)),(2,.p (.fp (eStem s) 0)),(10,nv a),(11,nv j),(59,.p (eInts b l)),(60,nv l.length),(61,nv k)]∧L=[]) (fun j=>l.length - j) 0 (by refine Wk.vw (ps:=[]) ⟨rfl,rfl,(by repeat (first | exact wf_nil | refine wf_back rfl rfl rfl ?_)),_,rfl,(trivial)⟩) ⟨k,Nat.zero_le _,hk,rfl,rfl,rfl⟩ ?_
   rintro j F' L ⟨a,hj,ha,hw,rfl,rfl⟩
   have hz:=good_zero hv (hg a ha)
   have fin:parF s l a<0→∀ i,i<k+1→parF s l (walkU (parF s l) s.copies.length i)<0:=fun h i hi=>by
    by_cases e:i=k
    ·subst e
     rw [←hw,walkU_stop (by omega)];exact h
    ·exact hg2 i (by omega)
   have hza:(!(l.getD a 0==0)) = !decide (parF s l a<0):=by rw [hz]
   have hla:=hlt a
   refine VSt.go tb_ok false [] 200 rfl AllP.n ?_
   refine VSt.splitO 69 rfl (fun g4=>?_) (fun g4=>?_)
   ·have g4:j<l.length:=by
     have:=of_decide_eq_true (show decide (Int.ofNat j<Int.ofNat l.length)=true from g4)
     simp only [Int.ofNat_eq_natCast] at this;omega
    refine VSt.go tb_ok false [] 200 rfl (AllP.c ‹_› (AllP.c rfl AllP.n)) ?_
    refine VSt.cond rfl (fun g5=>?_) (fun g5=>?_)
    ·have g5:(!(l.getD a 0==0))=true:=g5
     have h0a:0≤parF s l a:=by
      rw [hza] at g5
      have:=of_decide_eq_false (show decide (parF s l a<0)=false by simpa using g5)
      omega
     refine VSt.go tb_ok false [] 200 rfl (AllP.c ‹_› (AllP.c rfl AllP.n)) ?_
     refine VSt.pcD rfl rfl rfl rfl rfl rfl rfl rfl ((place_ok s (l.getD a 0) hs.c)) ?_
     refine VSt.go tb_ok false [10] 200 rfl AllP.n ?_
     refine VSt.putD 83 (nv (parF s l a).toNat) rfl (iv_nv (show parF s l a=_ by simp only [Int.ofNat_eq_natCast];omega)) ?_
     refine VSt.go tb_ok false [] 200 rfl (AllP.c (by unfold inR;(try simp only [Int.ofNat_eq_natCast]);omega) AllP.n) ?_
     refine ⟨j+1,_,_,(by refine Wk.vw (ps:=[]) ⟨rfl,rfl,(by repeat (first | exact wf_nil | refine wf_back rfl rfl rfl ?_)),_,rfl,(trivial)⟩),⟨(parF s l a).toNat,g4,by omega,?_,rfl,rfl⟩,by omega⟩
     rw [←hw,show s.copies.length - j=(s.copies.length - (j+1))+1 by omega,walkU_step h0a]
    ·have g5:(!(l.getD a 0==0))=false:=g5
     have h0a:parF s l a<0:=by
      rw [hza] at g5
      exact of_decide_eq_true (show decide (parF s l a<0)=true by simpa using g5)
     refine VSt.go tb_ok false [] 200 rfl (AllP.c ‹_› (AllP.c rfl AllP.n)) ?_
     refine VSt.cond rfl (fun g6=>?_) (fun g6=>?_)
     ·have g6:(!(l.getD a 0==0))=true:=g6
      rw [g5] at g6;cases g6
     ·refine VSt.go tb_ok false [] 200 rfl AllP.n ?_
      refine ⟨?_,fin h0a⟩
      refine Wk.vw (ps:=[]) ⟨rfl,rfl,(by repeat (first | exact wf_nil | refine wf_back rfl rfl rfl ?_)),_,rfl,(trivial)⟩
   ·have g4:¬ j<l.length:=by
     have:=of_decide_eq_false (show decide (Int.ofNat j<Int.ofNat l.length)=false from g4)
     simp only [Int.ofNat_eq_natCast] at this;omega
    refine VSt.go tb_ok false [] 200 rfl (AllP.c ‹_› (AllP.c rfl AllP.n)) ?_
    refine VSt.cond rfl (fun g6=>?_) (fun g6=>?_)
    ·have g6:(!(l.getD a 0==0))=true:=g6
     have h0a:0≤parF s l a:=by
      rw [hza] at g6
      have:=of_decide_eq_false (show decide (parF s l a<0)=false by simpa using g6)
      omega
     refine VSt.go tb_ok false [] 200 rfl AllP.n ?_
     refine EndsP.mk rfl rfl rfl ?_
     rw [no fun hp=>by
      have h5:=rooted_no (n:=s.copies.length) (p:=parF s l) (i:=k) (by omega) (by
       rw [←hw,show s.copies.length - j=0 by omega];exact h0a)
      have h6:=hp.2
      rw [h5] at h6
      cases h6];rfl
    ·have g6:(!(l.getD a 0==0))=false:=g6
     have h0a:parF s l a<0:=by
      rw [hza] at g6
      exact of_decide_eq_true (show decide (parF s l a<0)=true by simpa using g6)
     refine VSt.go tb_ok false [] 200 rfl AllP.n ?_
     refine ⟨?_,fin h0a⟩
     refine Wk.vw (ps:=[]) ⟨rfl,rfl,(by repeat (first | exact wf_nil | refine wf_back rfl rfl rfl ?_)),_,rfl,(trivial)⟩
  ·refine VSt.go tb_ok false [] 200 rfl AllP.n ?_
   refine EndsP.mk rfl rfl rfl ?_
   have:isPed s l:=⟨hgood,by rw [rooted_yes (fun i hi=>hg2 i (by omega)),h3]⟩
   unfold pedE
   rw [if_pos h0,if_pos this];rfl
theorem pedE_zero {s:Stem} {l:List Int} (hE:pedE s l=0):s.Valid∧l.length=s.copies.length∧(∀ k,k<s.copies.length→badP s l k=false):=by
 obtain ⟨h1,h2,_⟩:=pedE_of hE
 exact ⟨valid_of h1,h2.1,h2.2⟩
open Classical in
theorem rCostOf_ok {s:Stem} {b:Bool} {l:List Int} (hs:s.Ok) (hl:l.length<9223372036854775808):VP (sE r) 13 [.agg ((eStem s).map .p),.p (eInts b l)] (.tup [iv (costOfI s l),iv (pedE s l)]):=by
 refine VP.of (fn:=Tryz.f13) tb_ok rfl (by kernel_rfl) rfl rfl rfl ?_
 refine VSt.go tb_ok false [] 200 rfl AllP.n ?_
 refine VSt.pc rfl rfl rfl rfl rfl rfl rfl rfl ((rCheckPed_ok hs hl)) ?_
 refine VSt.go tb_ok false [] 200 rfl AllP.n ?_
 refine VSt.cond rfl (fun h=>?_) (fun h=>?_)
 ·have h:(!(pedE s l==0))=true:=h
  have h0:¬ pedE s l=0:=by simpa using h
  refine VSt.go tb_ok false [] 200 rfl AllP.n ?_
  refine EndsP.mk rfl rfl rfl ?_
  rw [show costOfI s l=0 from if_neg h0];rfl
 have h:(!(pedE s l==0))=false:=h
 have h0:pedE s l=0:=by simpa using h
 obtain ⟨hv,hlen,hgood⟩:=pedE_zero h0
 have hn:s.copies.length≤7:=hv.c
 have hlt:∀ k,k<s.copies.length→parF s l k<s.copies.length:=fun k _=>place_lt s _
 refine VSt.go tb_ok false [] 200 rfl AllP.n ?_
 refine VSt.viewC (Vw.freezeC 0 (eStem s) rfl rfl) ?_
 refine VSt.rangeT tb_ok l.length hl [1,2,16] (fun k=>[(7,iv (costP s (parF s l) k))]) (fun _=>[]) (fun _=>True) rfl rfl rfl (fun _=>rfl) rfl rfl (u0_cons rfl (AImp.refl _) u0_nil) trivial trivial (fun k hk _=>?_) (fun _=>?_)
 ·have hk2:k<s.copies.length:=by omega
  have hz:=good_zero hv (hgood k hk2)
  have hb:=costP_bd hv hlt k (by omega)
  have hlk:=hlt k hk2
  refine VSt.go tb_ok false [] 200 rfl (AllP.c ‹_› (AllP.c rfl AllP.n)) ?_
  refine VSt.cond rfl (fun g1=>?_) (fun g1=>?_)
  ·have g1:(!(l.getD k 0==0))=true:=g1
   have h0k:0≤parF s l k:=by
    rw [hz] at g1
    have:=of_decide_eq_false (show decide (parF s l k<0)=false by simpa using g1)
    omega
   have hcb:=costI_bd hv (i:=(parF s l k).toNat) (k:=k) (by omega)
   refine VSt.go tb_ok false [] 200 rfl AllP.n ?_
   refine VSt.pcD rfl rfl rfl rfl rfl rfl rfl rfl ((place_ok s (l.getD k 0) hs.c)) ?_
   refine VSt.go tb_ok false [31] 200 rfl AllP.n ?_
   refine VSt.putD 29 (nv (parF s l k).toNat) rfl (iv_nv (show parF s l k=_ by simp only [Int.ofNat_eq_natCast];omega)) ?_
   refine VSt.go tb_ok false [] 200 rfl AllP.n ?_
   refine VSt.pcD rfl rfl rfl rfl rfl rfl rfl rfl ((rcost_ok hv (i:=(parF s l k).toNat) (by omega) hk2)) ?_
   refine VSt.go tb_ok false [7] 200 rfl (AllP.c (by unfold inR;(try simp only [Int.ofNat_eq_natCast]);omega) AllP.n) ?_
   refine VSt.putD 32 (iv (costP s (parF s l) (k+1))) rfl (iv_eq (costP_kid h0k).symm) ?_
   refine VSt.go tb_ok false [] 200 rfl AllP.n ?_
   refine ⟨?_,trivial⟩
   refine Wk.vw (ps:=[]) ⟨rfl,rfl,(by repeat (first | exact wf_nil | refine wf_back rfl rfl rfl ?_)),_,rfl,(trivial)⟩
  ·have g1:(!(l.getD k 0==0))=false:=g1
   have h0k:parF s l k<0:=by
    rw [hz] at g1
    exact of_decide_eq_true (show decide (parF s l k<0)=true by simpa using g1)
   refine VSt.putC 7 (iv (costP s (parF s l) (k+1))) rfl (iv_eq (costP_root h0k).symm) ?_
   refine VSt.go tb_ok false [] 200 rfl AllP.n ?_
   refine ⟨?_,trivial⟩
   refine Wk.vw (ps:=[]) ⟨rfl,rfl,(by repeat (first | exact wf_nil | refine wf_back rfl rfl rfl ?_)),_,rfl,(trivial)⟩
 ·refine VSt.go tb_ok false [] 200 rfl AllP.n ?_
  refine EndsP.mk rfl rfl rfl ?_
  rw [show costOfI s l=costP s (parF s l) s.copies.length from if_pos h0,h0,hlen];rfl
end Go.Proofs.YtncpeobcgmkkbaaGreat
/- Walks: the reference's Slips, SameSlips. -/
set_option maxRecDepth 100000
namespace Go.Proofs.YtncpeobcgmkkbaaGreat
variable {r:Tr (List Value×TypeId)}
end Go.Proofs.YtncpeobcgmkkbaaGreat
/- Walks: the reference's Pedigree. -/
set_option maxRecDepth 100000
namespace Go.Proofs.YtncpeobcgmkkbaaGreat
variable {r:Tr (List Value×TypeId)}
end Go.Proofs.YtncpeobcgmkkbaaGreat
/- Walks: the law of pedigrees. -/
set_option maxRecDepth 100000
namespace Go.Proofs.YtncpeobcgmkkbaaGreat
variable {r:Tr (List Value×TypeId)}
end Go.Proofs.YtncpeobcgmkkbaaGreat
/- Walks: the reference's trees: bar, used. -/
set_option maxRecDepth 100000
namespace Go.Proofs.YtncpeobcgmkkbaaGreat
variable {r:Tr (List Value×TypeId)}
def barC (c:Nat→Nat→Int) (a b i j:Nat):Int:=bif Nat.beq i a&&Nat.beq j b then farZ else c i j
theorem barC_bd {c:Nat→Nat→Int} (hc:∀ i k,0≤c i k∧c i k≤farZ) (a b i j:Nat):0≤barC c a b i j∧barC c a b i j≤farZ:=by
 unfold barC
 cases (Nat.beq i a&&Nat.beq j b) with
 | true=>exact ⟨by show (0:Int)≤farZ;decide,Int.le_refl _⟩
 | false=>exact hc i j
def aN (n a k:Nat):Nat:=if a<k then n else 0
theorem rowsO_ne {n i k:Nat} {c:Nat→Nat→Int} (h:k≠i):rowsO n c (i+1) k=rowsO n c i k:=by
 unfold rowsO
 by_cases h2:k<i
 ·rw [blt_t h2,blt_t (show k<i+1 by omega)]
 ·rw [blt_f h2,blt_f (show ¬ k<i+1 by omega)]
theorem rowsO_at {n i:Nat} {c:Nat→Nat→Int}:rowsO n c (i+1) i=rowI n (c i):=by
 unfold rowsO
 rw [blt_t (Nat.lt_succ_self i)];rfl
def memBar (n:Nat) (c:Nat→Nat→Int) (a k:Nat):VS:=[(5,.acc (aN n a k) 1 (fInts (c a)) 3),(3,.cells [.sl 2 1 0 n n 1] 78),(2,.hdr n (rowsO n c k) [(a,.acc true 5 1 (aN n a k))] 28),(1,.cells [.p nilP] 78)]
theorem hdr_one {n i:Nat} {p:Nat→PV} {v w:AV} {t:TypeId} (h:AImp v w):BImp (.hdr n p [(i,v)] t) (.hdr n p [(i,w)] t):=BImp.hdr fun k _=>by
 unfold hdrX
 cases Nat.beq i k with
 | true=>exact h
 | false=>exact AImp.refl _
theorem hdr_bar1 {n i a m m':Nat} {c:Nat→Nat→Int} {v:AV} {t:TypeId} (e:i≠a) (hv:AImp v (.p (rowI n (c i)))) (hm:m=m'):BImp (.hdr n (rowsO n c i) [(0+i,v),(a,.acc true 5 1 m)] t) (.hdr n (rowsO n c (i+1)) [(a,.acc true 5 1 m')] t):=BImp.hdr fun k _=>by
 subst hm
 show AImp (bif Nat.beq (0+i) k then v else bif Nat.beq a k then .acc true 5 1 m else .p (rowsO n c i k)) (bif Nat.beq a k then .acc true 5 1 m else .p (rowsO n c (i+1) k))
 rw [Nat.zero_add]
 by_cases h:i=k
 ·subst h
  rw [Nat.beq_refl,beq_ne (fun h=>e h.symm),rowsO_at];exact hv
 ·rw [beq_ne h,rowsO_ne (fun h2=>h h2.symm)];exact AImp.refl _
theorem hdr_bar2 {n i:Nat} {c:Nat→Nat→Int} {v w:AV} {t:TypeId}:BImp (.hdr n (rowsO n c i) [(0+i,v),(i,w)] t) (.hdr n (rowsO n c (i+1)) [(i,v)] t):=BImp.hdr fun k _=>by
 show AImp (bif Nat.beq (0+i) k then v else bif Nat.beq i k then w else .p (rowsO n c i k)) (bif Nat.beq i k then v else .p (rowsO n c (i+1) k))
 rw [Nat.zero_add]
 by_cases h:i=k
 ·subst h
  rw [Nat.beq_refl];exact AImp.refl _
 ·rw [beq_ne h,rowsO_ne (fun h2=>h h2.symm)];exact AImp.refl _
theorem hdr_bar3 {n a b:Nat} {c:Nat→Nat→Int} {v:PV} (h:AImp (.p v) (.p (rowI n (barC c a b a)))):BImp (.hdr n (rowsO n c n) [(a,.p v)] 28) (.arr n 1 (fun i=>[rowI n (barC c a b i)]) 28):=BImp.hdrArr (p:=fun i=>rowI n (barC c a b i)) (fun k hk=>by
 show AImp (bif Nat.beq a k then .p v else .p (rowsO n c n k)) _
 by_cases e:a=k
 ·subst e
  rw [Nat.beq_refl];exact h
 ·rw [beq_ne e]
  show AImp (.p (rowsO n c n k)) _
  unfold rowsO
  rw [blt_t hk]
  refine AImp.lst fun x _=>?_
  show [PV.int .i64 (c k x)]=[.int .i64 (bif Nat.beq k a&&Nat.beq x b then farZ else c k x)]
  rw [beq_ne (fun h=>e h.symm)];rfl) fun _ _=>rfl
set_option maxHeartbeats 4000000 in
theorem bar_ok {n a b:Nat} {c:Nat→Nat→Int} (hn:n≤7) (ha:a<n) (hb:b<n) :
  VP (sE r) 68 [treeV n c,nv a,nv b] (treeV n (barC c a b)):=by
 refine VP.of (fn:=Tryz.f68) tb_ok rfl (by kernel_rfl) rfl rfl rfl ?_
 refine VSt.go tb_ok false [] 200 rfl (AllP.c (by omega) (AllP.c (by omega) AllP.n)) ?_
 refine VSt.viewC (Vw.adopt 5 1 (fInts (c a)) 3 rfl) ?_
 refine VSt.viewC (Vw.kp [1,2,6,7,16,17,18] [(5,5),(3,3),(2,2),(1,1)] rfl) ?_
 have a0:aN n a 0=0:=if_neg (Nat.not_lt_zero a)
 refine VSt.rangeT tb_ok n (by omega) [1,2,6,7,16] (fun _=>[]) (fun i=>memBar n c a i) (fun _=>True) rfl rfl rfl (fun _=>rfl) rfl rfl u0_nil ⟨rfl,BImp.acc a0.symm (fun _ _=>rfl),rfl,BImp.refl _,rfl,?_,rfl,BImp.refl _,trivial⟩ trivial (fun i hi _=>?_) (fun _=>?_)
 ·refine ⟨?_,id⟩
  rintro E S Z j q hq
  obtain ⟨vs,h1,h2,h3,h4⟩:=(rowsO_none (n:=n) (c:=c) (fun _ _=>rfl)).1 E S Z j q hq
  refine ⟨vs,h1,h2,h3,fun k hk=>?_⟩
  obtain ⟨v,h5,h6⟩:=h4 k hk
  refine ⟨v,h5,?_⟩
  rw [a0]
  by_cases e:a=k
  ·subst e
   unfold hdrX
   rw [Nat.beq_refl]
   exact AImp.nilAcc (ty:=0) (f:=fun _=>[]) _ _ _ _ _ h6
  ·unfold hdrX
   rw [beq_ne e];exact h6
 ·by_cases e:i=a
  ·subst e
   have e1:aN n i i=0:=if_neg (Nat.lt_irrefl i)
   have e2:aN n i (i+1)=n:=if_pos (Nat.lt_succ_self i)
   refine VSt.go tb_ok false [] 200 rfl (AllP.c ‹_› (AllP.c rfl (AllP.c (by omega) (AllP.c (by omega) (AllP.c (fun _ _=>rfl) (AllP.c rfl (AllP.c rfl (AllP.c (by omega) (AllP.c (by omega) (AllP.c ‹_› (AllP.c rfl (AllP.c (by omega) (AllP.c rfl (AllP.c ‹_› (AllP.c rfl AllP.n))))))))))))))) ?_
   refine ⟨?_,trivial⟩
   refine Vw.trans (Vw.kp [1,2,6,7,16,17,18] [(7,7),(5,5),(3,3),(2,2),(1,1)] rfl) ?_
   refine Vw.trans (Vw.imp (L':=[(7,_),(5,_),(3,_),(2,.hdr n (rowsO n c (i+1)) [(i,.sl 7 1 0 (0+n) (0+n) 0)] 28),(1,_)]) ⟨rfl,BImp.refl _,rfl,BImp.refl _,rfl,BImp.refl _,rfl,hdr_bar2,rfl,BImp.refl _,trivial⟩) ?_
   refine Wk.vw (ps:=[(5,7),(3,3),(2,2),(1,1)]) ⟨rfl,rfl,(by repeat (first | exact wf_nil | refine wf_back rfl rfl rfl ?_)),_,rfl,(⟨rfl,BImp.arrAcc (by rw [e2,Nat.zero_add]) (fun _ _=>rfl),rfl,BImp.refl _,rfl,hdr_one (AImp.slAcc (by rw [e2];omega) (by rw [e2,Nat.zero_add]) (by rw [e2,Nat.zero_add])),rfl,BImp.refl _,trivial⟩)⟩
  ·have e1:aN n a (i+1)=aN n a i:=by
    unfold aN
    by_cases h:a<i
    ·rw [if_pos h,if_pos (by omega)]
    ·rw [if_neg h,if_neg (by omega)]
   refine VSt.go tb_ok false [] 200 rfl (AllP.c ‹_› (AllP.c rfl (AllP.c (by omega) (AllP.c (by omega) (AllP.c (fun _ _=>rfl) (AllP.c rfl (AllP.c rfl (AllP.c (by omega) (AllP.c (by omega) (AllP.c ‹_› (AllP.c rfl (AllP.c (by omega) (AllP.c rfl (AllP.c ‹_› (AllP.c rfl AllP.n))))))))))))))) ?_
   refine ⟨?_,trivial⟩
   refine Vw.trans (Vw.kp [1,2,6,7,16,17,18] [(7,7),(5,5),(3,3),(2,2),(1,1)] rfl) ?_
   refine Vw.trans (Vw.freeze 7 rfl rfl ⟨by rw [Nat.zero_add];exact Nat.le_refl _,Nat.le_refl _,rfl⟩) ?_
   refine Wk.vw (ps:=[(5,5),(3,3),(2,2),(1,1)]) ⟨rfl,rfl,(by repeat (first | exact wf_nil | refine wf_back rfl rfl rfl ?_)),_,rfl,(⟨rfl,BImp.acc e1.symm (fun _ _=>rfl),rfl,BImp.refl _,rfl,hdr_bar1 e (row_imp (Nat.zero_add n) fun x hx=>?_) e1.symm,rfl,BImp.refl _,trivial⟩)⟩
   show [PV.int .i64 (c i (0+x - 0))]=[.int .i64 (c i x)]
   rw [Nat.zero_add,Nat.sub_zero]
 ·have en:aN n a n=n:=if_pos ha
  refine VSt.run tb_ok false [] 1 rfl trivial ?_
  refine VSt.viewC (Vw.imp (L':=[(5,.acc n 1 (fInts (c a)) 3),(3,.cells [.sl 2 1 0 n n 1] 78),(2,.hdr n (rowsO n c n) [(a,.acc true 5 1 n)] 28),(1,.cells [.p nilP] 78)]) ⟨rfl,BImp.acc en (fun _ _=>rfl),rfl,BImp.refl _,rfl,hdr_one (AImp.acc en (fun _=>rfl)),rfl,BImp.refl _,trivial⟩) ?_
  refine VSt.go tb_ok false [38] 200 rfl (AllP.c ‹_› (AllP.c rfl (AllP.c (by omega) (AllP.c rfl (AllP.c ‹_› (AllP.c (by omega) (AllP.c ‹_› (AllP.c rfl (AllP.c ‹_› (AllP.c rfl (AllP.c (Nat.le_refl _) AllP.n))))))))))) ?_
  refine VSt.viewO (Vw.kp [6,7] [(5,5),(3,3),(2,2),(1,1)] rfl) ?_
  refine VSt.viewO (Vw.freezeA 5 rfl rfl ⟨Nat.le_refl _,rfl⟩) ?_
  refine VSt.viewO (Vw.imp (L':=[(3,.cells [.sl 2 1 0 n n 1] 78),(2,.arr n 1 (fun i=>[rowI n (barC c a b i)]) 28),(1,.cells [.p nilP] 78)]) ⟨rfl,BImp.refl _,rfl,hdr_bar3 ?_,rfl,BImp.refl _,trivial⟩) ?_
  ·show AImp (.p (.lst 3 (true&&Nat.beq n 0) n _)) _
   rw [beq_ne (show n≠0 by omega)]
   refine AImp.lst fun x hx=>?_
   show (bif Nat.beq x b then [PV.int .i64 1000000] else [PV.int .i64 (c a x)])=[.int .i64 (bif Nat.beq a a&&Nat.beq x b then 1000000 else c a x)]
   rw [Nat.beq_refl,Bool.true_and]
   cases Nat.beq x b <;> rfl
  refine VSt.viewO (Vw.freeze 2 rfl rfl ⟨by rw [Nat.zero_add];exact Nat.le_refl _,Nat.le_refl _,rfl⟩) ?_
  refine VSt.go tb_ok false [] 200 rfl AllP.n ?_
  exact ⟨rfl,_,rfl,rfl,tab_imp⟩
def usedB (c:Nat→Nat→Int) (n a b:Nat) (m:Int):Bool:=(List.range n).any fun q=>!(Int.ofNat q==Int.ofNat b)&&(leastM (onlyC c (Int.ofNat a) b) n q==m)
theorem used_ok {n a b:Nat} {c:Nat→Nat→Int} {m:Int} (hn:n≤7) (hb:b<n) (hc:∀ i k,0≤c i k∧c i k≤farZ) :
  VP (sE r) 67 [treeV n c,nv a,nv b,iv m] (bv (usedB c n a b m)):=by
 refine VP.of (fn:=Tryz.f67) tb_ok rfl (by kernel_rfl) rfl rfl rfl ?_
 refine VSt.go tb_ok false [] 200 rfl AllP.n ?_
 refine VSt.pc rfl rfl rfl rfl rfl rfl rfl rfl ((Only_ok (P:=Int.ofNat a) hn hb)) ?_
 refine VSt.go tb_ok false [] 200 rfl AllP.n ?_
 refine VSt.pc rfl rfl rfl rfl rfl rfl rfl rfl ((Least_ok hn (onlyC_bd hc (Int.ofNat a) b))) ?_
 refine VSt.go tb_ok false [] 200 rfl AllP.n ?_
 refine VSt.viewC (Vw.kp [2,3,17,18,19] [] rfl) ?_
 refine VSt.rangeT tb_ok n (by omega) [2,3,17] (fun _=>[]) (fun _=>[]) (fun k=>∀ q,q<k→(!(Int.ofNat q==Int.ofNat b)&&(leastM (onlyC c (Int.ofNat a) b) n q==m))=false) rfl rfl rfl (fun _=>rfl) rfl rfl u0_nil trivial (fun q hq=>absurd hq (Nat.not_lt_zero q)) (fun k hk hp=>?_) (fun hp=>?_)
 ·have go:(!(Int.ofNat k==Int.ofNat b)&&(leastM (onlyC c (Int.ofNat a) b) n k==m))=false→∀ q,q<k+1→(!(Int.ofNat q==Int.ofNat b)&&(leastM (onlyC c (Int.ofNat a) b) n q==m))=false:=fun h q hq=>by
   by_cases e:q=k
   ·rw [e];exact h
   ·exact hp q (by omega)
  refine VSt.go tb_ok false [] 200 rfl (AllP.c ‹_› (AllP.c rfl AllP.n)) ?_
  refine VSt.splitO 27 rfl (fun g1=>?_) (fun g1=>?_)
  ·have g1:(!(Int.ofNat k==Int.ofNat b))=true:=g1
   refine VSt.go tb_ok false [] 200 rfl AllP.n ?_
   refine VSt.cond rfl (fun g2=>?_) (fun g2=>?_)
   ·have g2:(leastM (onlyC c (Int.ofNat a) b) n k==m)=true:=g2
    refine VSt.go tb_ok false [] 200 rfl AllP.n ?_
    refine EndsP.mk rfl rfl rfl ?_
    rw [show usedB c n a b m=true from any_range_true hk (by rw [g1,g2];rfl)];rfl
   ·have g2:(leastM (onlyC c (Int.ofNat a) b) n k==m)=false:=g2
    refine VSt.go tb_ok false [] 200 rfl AllP.n ?_
    refine ⟨?_,go (by rw [g2,Bool.and_false])⟩
    refine Wk.vw (ps:=[]) ⟨rfl,rfl,(by repeat (first | exact wf_nil | refine wf_back rfl rfl rfl ?_)),_,rfl,(trivial)⟩
  ·have g1:(!(Int.ofNat k==Int.ofNat b))=false:=g1
   refine VSt.go tb_ok false [] 200 rfl AllP.n ?_
   refine ⟨?_,go (by rw [g1,Bool.false_and])⟩
   refine Wk.vw (ps:=[]) ⟨rfl,rfl,(by repeat (first | exact wf_nil | refine wf_back rfl rfl rfl ?_)),_,rfl,(trivial)⟩
 ·refine VSt.go tb_ok false [] 200 rfl AllP.n ?_
  refine EndsP.mk rfl rfl rfl ?_
  rw [show usedB c n a b m=false from any_range_false hp];rfl
end Go.Proofs.YtncpeobcgmkkbaaGreat
/- Walks: the reference's Parent. -/
set_option maxRecDepth 100000
namespace Go.Proofs.YtncpeobcgmkkbaaGreat
variable {r:Tr (List Value×TypeId)}
theorem barC_res (c:Nat→Nat→Int) (a b:Nat):barC c a b=resC c (fun i j=>!(Nat.beq i a&&Nat.beq j b)):=by
 funext i j
 show (bif Nat.beq i a&&Nat.beq j b then farZ else c i j)=bif !(Nat.beq i a&&Nat.beq j b) then c i j else farZ
 cases (Nat.beq i a&&Nat.beq j b) <;> rfl
theorem leastAt_T {s:Stem} (hv:s.Valid) {q:Nat} (hq:q<leastN s):LeastT s (leastAt s q):=by
 refine leastT_mem hv ?_
 unfold leastAt
 rw [List.getD_eq_getElem?_getD,List.getElem?_eq_getElem hq]
 exact List.getElem_mem hq
theorem leastT_at {s:Stem} (hv:s.Valid) {p:Nat→Int} (hp:LeastT s p):∃ q,q<leastN s∧∀ j,j<s.copies.length→leastAt s q j=p j:=by
 obtain ⟨p',h1,h2⟩:=leastT_in hv hp
 obtain ⟨q,hq,rfl⟩:=List.mem_iff_getElem.1 h1
 refine ⟨q,hq,fun j hj=>?_⟩
 unfold leastAt
 rw [List.getD_eq_getElem?_getD,List.getElem?_eq_getElem hq]
 exact h2 j hj
section
variable {s:Stem} {i j:Nat}
theorem only_iff (hv:s.Valid) (hne:(searchS s).least≠[]) (hj:j<s.copies.length):(fewM (onlyC (refC s) (Int.ofNat i) j) s.copies.length=(searchS s).cost∧usedB (refC s) s.copies.length i j (searchS s).cost=true) ↔ ∃ q,q<leastN s∧leastAt s q j=Int.ofNat i:=by
 have hres:onlyC (refC s) (Int.ofNat i) j=resC (refC s) (fun x y=>true&&(!Nat.beq y j||Int.ofNat x==Int.ofNat i)):=onlyC_res (refC s) (fun _ _=>true) (Int.ofNat i) j
 unfold usedB
 rw [hres]
 have hal:∀ q,Allow s (fun x y=>true&&(!Nat.beq y j||Int.ofNat x==Int.ofNat i)) q ↔ (0≤q j→q j=Int.ofNat i):=fun q=>by
  constructor
  ·intro h h0
   have this:(true&&(!Nat.beq j j||Int.ofNat (q j).toNat==Int.ofNat i))=true:=h j hj h0
   rw [Bool.true_and,Nat.beq_refl] at this
   have h2:Int.ofNat (q j).toNat=Int.ofNat i:=by simpa using this
   rw [←h2];simp only [Int.ofNat_eq_natCast];omega
  ·intro h y hy h0
   show (true&&(!Nat.beq y j||Int.ofNat (q y).toNat==Int.ofNat i))=true
   by_cases e:y=j
   ·subst e
    rw [show Int.ofNat (q y).toNat=Int.ofNat i by rw [←h h0];simp only [Int.ofNat_eq_natCast];omega]
    simp
   ·rw [beq_ne e];rfl
 constructor
 ·rintro ⟨_,h2⟩
  obtain ⟨x,hx,hx2⟩:=List.any_eq_true.1 h2
  have hxn:=List.mem_range.1 hx
  rw [Bool.and_eq_true] at hx2
  have hxj:x≠j:=fun e=>by subst e;simp at hx2
  have hx3:leastM (resC (refC s) (fun x y=>true&&(!Nat.beq y j||Int.ofNat x==Int.ofNat i))) s.copies.length x=(searchS s).cost:=by simpa using hx2.2
  obtain ⟨q,q1,q2,q3⟩:=(least_eq hv hne hxn).1 hx3
  have hqj:=(hal q).1 q2 (root_uniq q1.1.root hxn hj q3 (fun e=>hxj e.symm))
  obtain ⟨k,k1,k2⟩:=leastT_at hv q1
  exact ⟨k,k1,(k2 j hj).trans hqj⟩
 ·rintro ⟨k,k1,k2⟩
  have hT:=leastAt_T hv k1
  have hA:=(hal (leastAt s k)).2 fun _=>k2
  refine ⟨(few_eq hv hne).2 ⟨_,hT,hA⟩,?_⟩
  obtain ⟨x,hx,hx0⟩:=root_ex (q:=leastAt s k) (n:=s.copies.length) (by rw [hT.1.root];decide)
  refine List.any_eq_true.2 ⟨x,List.mem_range.2 hx,?_⟩
  have hxj:x≠j:=fun e=>by subst e;rw [k2] at hx0;simp only [Int.ofNat_eq_natCast] at hx0;omega
  rw [(least_eq hv hne hx).2 ⟨_,hT,hA,hx0⟩,beq_self_eq_true,Bool.and_true]
  have:(Int.ofNat x==Int.ofNat j)=false:=beq_false_of_ne fun e=>hxj (Int.ofNat_inj.1 e)
  rw [this];rfl
theorem bar_iff (hv:s.Valid) (hne:(searchS s).least≠[]) (hj:j<s.copies.length):fewM (barC (refC s) i j) s.copies.length=(searchS s).cost ↔ ∃ q,q<leastN s∧leastAt s q j≠Int.ofNat i:=by
 rw [barC_res,few_eq hv hne]
 constructor
 ·rintro ⟨q,q1,q2⟩
  obtain ⟨k,k1,k2⟩:=leastT_at hv q1
  refine ⟨k,k1,fun e=>?_⟩
  rw [k2 j hj] at e
  have:=q2 j hj (by rw [e];simp only [Int.ofNat_eq_natCast];omega)
  rw [e] at this
  simp at this
 ·rintro ⟨k,k1,k2⟩
  refine ⟨_,leastAt_T hv k1,fun y hy h0=>?_⟩
  by_cases e:y=j
  ·subst e
   have:(leastAt s k y).toNat≠i:=fun e=>k2 (by rw [←e];simp only [Int.ofNat_eq_natCast];omega)
   show (!(Nat.beq (leastAt s k y).toNat i&&_))=true
   rw [beq_ne this];rfl
  ·show (!(_&&Nat.beq y j))=true
   rw [beq_ne e,Bool.and_false];rfl
theorem idOf_at (hv:s.Valid) (hi:i<s.copies.length) {x:Int} (hx:x<s.copies.length):idOf s x=idAt s i ↔ x=Int.ofNat i:=by
 constructor
 ·intro h
  by_cases h0:x<0
  ·have h1:idOf s x=0:=by unfold idOf;rw [decide_eq_true h0];rfl
   have:=hv.id_pos hi
   omega
  ·have h1:idOf s x=idAt s x.toNat:=by unfold idOf;rw [decide_eq_false h0];rfl
   rw [h1] at h
   have:=idAt_inj hv (by omega) hi h
   rw [←this];simp only [Int.ofNat_eq_natCast];omega
 ·intro h
  unfold idOf
  rw [h,decide_eq_false (by simp only [Int.ofNat_eq_natCast];omega)];rfl
theorem cnt_zero {a:Int}:∀ {k:Nat},cntP s a j k≠0→∃ q,q<k∧idOf s (leastAt s q j)=a
 | 0,h=>absurd rfl h
 | k+1,h=>by
  unfold cntP at h
  cases hb:idOf s (leastAt s k j)==a with
  | true=>exact ⟨k,Nat.lt_succ_self k,by simpa using hb⟩
  | false =>
   rw [hb] at h
   obtain ⟨q,h1,h2⟩:=cnt_zero (k:=k) h
   exact ⟨q,by omega,h2⟩
theorem cnt_full {a:Int}:∀ {k:Nat},cntP s a j k≠k→∃ q,q<k∧idOf s (leastAt s q j)≠a
 | 0,h=>absurd rfl h
 | k+1,h=>by
  unfold cntP at h
  cases hb:idOf s (leastAt s k j)==a with
  | true =>
   rw [hb] at h
   obtain ⟨q,h1,h2⟩:=cnt_full (k:=k) (fun e=>h (by show cntP s a j k+1=_;rw [e]))
   exact ⟨q,by omega,h2⟩
  | false=>exact ⟨k,Nat.lt_succ_self k,by simpa using hb⟩
theorem par_no (hv:s.Valid) (hi:i<s.copies.length) (hj:j<s.copies.length) (hpj:place s (idAt s j)=Int.ofNat j) (h:¬ ∃ q,q<leastN s∧leastAt s q j=Int.ofNat i):parA s (idAt s i) (idAt s j)=0:=by
 unfold parA
 rw [hpj]
 refine if_pos ?_
 refine Classical.byContradiction fun hc=>?_
 obtain ⟨q,h1,h2⟩:=cnt_zero hc
 exact h ⟨q,h1,(idOf_at hv hi ((leastAt_T hv h1).1.part.lt j hj)).1 h2⟩
theorem par_some (hv:s.Valid) (hi:i<s.copies.length) (hj:j<s.copies.length) (hpj:place s (idAt s j)=Int.ofNat j) (h:∃ q,q<leastN s∧leastAt s q j=Int.ofNat i):parA s (idAt s i) (idAt s j)=if (∃ q,q<leastN s∧leastAt s q j≠Int.ofNat i) then 2 else 1:=by
 unfold parA
 rw [hpj]
 obtain ⟨q,h1,h2⟩:=h
 have hc:=cntP_pos (a:=idAt s i) h1 ((idOf_at hv hi ((leastAt_T hv h1).1.part.lt j hj)).2 h2)
 rw [if_neg (by show ¬ cntP s (idAt s i) (Int.ofNat j).toNat (leastN s)=0;exact Nat.pos_iff_ne_zero.1 hc)]
 by_cases he:∃ q,q<leastN s∧leastAt s q j≠Int.ofNat i
 ·rw [if_pos he]
  obtain ⟨q2,h3,h4⟩:=he
  have:=cntP_all (a:=idAt s i) h3 (fun e=>h4 ((idOf_at hv hi ((leastAt_T hv h3).1.part.lt j hj)).1 e))
  exact if_neg (Nat.ne_of_lt this)
 ·rw [if_neg he]
  refine if_pos ?_
  refine Classical.byContradiction fun hc2=>?_
  obtain ⟨q2,h3,h4⟩:=cnt_full hc2
  exact he ⟨q2,h3,fun e=>h4 ((idOf_at hv hi ((leastAt_T hv h3).1.part.lt j hj)).2 e)⟩
end
theorem rParent_ok {s:Stem} (hs:s.Ok) (a b:Int):VP (sE r) 22 [.agg ((eStem s).map .p),iv a,iv b] (.tup [iv (if parE s a b=0 then parA s a b else 0),iv (parE s a b)]):=by
 have hk:=known_ok (r:=r) hs
 have no:∀ e,parE s a b=e→¬ e=0→AV.tup [iv 0,iv e] = .tup [iv (if parE s a b=0 then parA s a b else 0),iv (parE s a b)]:=fun e h1 h2=>by
  rw [h1,if_neg h2]
 refine VP.of (fn:=Tryz.f22) tb_ok rfl (by kernel_rfl) rfl rfl rfl ?_
 refine VSt.go tb_ok false [] 200 rfl AllP.n ?_
 refine VSt.pc rfl rfl rfl rfl rfl rfl rfl rfl ((rCheck_ok s hs)) ?_
 refine VSt.go tb_ok false [] 200 rfl AllP.n ?_
 refine VSt.cond rfl (fun h1=>?_) (fun h1=>?_)
 ·have h1:(!(ckStem s==0))=true:=h1
  have h0:¬ ckStem s=0:=by simpa using h1
  refine VSt.go tb_ok false [] 200 rfl AllP.n ?_
  refine EndsP.mk rfl rfl rfl (no _ ?_ h0)
  unfold parE twoM
  rw [if_neg h0,if_neg h0]
 have h1:(!(ckStem s==0))=false:=h1
 have h0:ckStem s=0:=by simpa using h1
 have hv:=valid_of h0
 have hn:s.copies.length≤7:=hv.c
 have arg:(decide (place s a<0)||(decide (place s b<0)||(place s a==place s b)))=true→parE s a b=1:=fun h=>by
  unfold parE twoM
  rw [if_pos h0,if_pos h,if_neg (by decide)]
 refine VSt.go tb_ok false [] 200 rfl AllP.n ?_
 refine VSt.pc rfl rfl rfl rfl rfl rfl rfl rfl ((place_ok s a hs.c)) ?_
 refine VSt.go tb_ok false [] 200 rfl AllP.n ?_
 refine VSt.splitO 23 rfl (fun h2=>?_) (fun h2=>?_)
 ·have h2:decide (place s a<0)=true:=h2
  refine VSt.go tb_ok false [] 200 rfl AllP.n ?_
  exact EndsP.mk rfl rfl rfl (no 1 (arg (by rw [h2];rfl)) (by decide))
 have h2:decide (place s a<0)=false:=h2
 refine VSt.go tb_ok false [] 200 rfl AllP.n ?_
 refine VSt.pc rfl rfl rfl rfl rfl rfl rfl rfl ((place_ok s b hs.c)) ?_
 refine VSt.go tb_ok false [] 200 rfl AllP.n ?_
 refine VSt.splitO 29 rfl (fun h3=>?_) (fun h3=>?_)
 ·have h3:decide (place s b<0)=true:=h3
  refine VSt.go tb_ok false [] 200 rfl AllP.n ?_
  exact EndsP.mk rfl rfl rfl (no 1 (arg (by rw [h2,h3];rfl)) (by decide))
 have h3:decide (place s b<0)=false:=h3
 refine VSt.go tb_ok false [] 200 rfl AllP.n ?_
 refine VSt.cond rfl (fun h4=>?_) (fun h4=>?_)
 ·have h4:(a==b)=true:=h4
  have h4:a=b:=by simpa using h4
  refine VSt.go tb_ok false [] 200 rfl AllP.n ?_
  exact EndsP.mk rfl rfl rfl (no 1 (arg (by rw [h2,h3,h4,beq_self_eq_true];rfl)) (by decide))
 have h4:(a==b)=false:=h4
 have h4:a≠b:=by simpa using h4
 refine Exists.elim (place_nat (s:=s) (a:=a) h2) fun i hi=>?_
 refine Exists.elim (place_nat (s:=s) (a:=b) h3) fun j hj=>?_
 have hie:=hi.2
 have hi:=hi.1
 have hje:=hj.2
 have hj:=hj.1
 have hai:idAt s i=a:=by have:=(place_id (s:=s) (a:=a) (of_decide_eq_false h2 |> Int.not_lt.1)).2;rw [hie] at this;exact this
 have hbj:idAt s j=b:=by have:=(place_id (s:=s) (a:=b) (of_decide_eq_false h3 |> Int.not_lt.1)).2;rw [hje] at this;exact this
 have hpj:place s (idAt s j)=Int.ofNat j:=by rw [hbj];exact hje
 have hpe:(place s a==place s b)=false:=by
  rw [hie,hje]
  exact beq_false_of_ne fun e=>h4 (by rw [←hai,←hbj,Int.ofNat_inj.1 e])
 have hE:parE s a b=if leastN s=0 then 45 else 0:=by
  unfold parE
  have ht:twoM s a b=(place s a,place s b,0):=by
   unfold twoM
   rw [if_pos h0,h2,h3,hpe];rfl
  rw [ht];rfl
 refine VSt.go tb_ok false [] 200 rfl AllP.n ?_
 by_cases h:studE s=0
 ·obtain ⟨hck,hm⟩:=studE_zero h
  have hne:(searchS s).least≠[]:=fun e=>by unfold leastN at hm;rw [e] at hm;exact absurd hm (by decide)
  have hE0:parE s a b=0:=by rw [hE,if_neg (by omega)]
  rw [show knownT s=treeV s.copies.length (refC s) from if_pos h,show knownN s=(searchS s).cost from if_pos h,h] at hk
  rw [hE0,if_pos rfl,←hai,←hbj]
  refine VSt.pc rfl rfl rfl rfl rfl rfl rfl rfl (hk) ?_
  refine VSt.go tb_ok false [] 200 rfl AllP.n ?_
  refine VSt.cond rfl (fun h1=>absurd h1 (by decide)) (fun _=>?_)
  refine VSt.go tb_ok false [] 200 rfl AllP.n ?_
  refine VSt.pc rfl rfl rfl rfl rfl rfl rfl rfl ((place_ok s (idAt s i) hs.c)) ?_
  refine VSt.putO 45 (nv i) rfl (iv_nv (by rw [hai];exact hie)) ?_
  refine VSt.go tb_ok false [] 200 rfl AllP.n ?_
  refine VSt.pc rfl rfl rfl rfl rfl rfl rfl rfl ((place_ok s (idAt s j) hs.c)) ?_
  refine VSt.putO 48 (nv j) rfl (iv_nv hpj) ?_
  refine VSt.go tb_ok false [] 200 rfl AllP.n ?_
  refine VSt.pc rfl rfl rfl rfl rfl rfl rfl rfl ((Only_ok (P:=Int.ofNat i) hn hj)) ?_
  refine VSt.go tb_ok false [] 200 rfl AllP.n ?_
  refine VSt.pc rfl rfl rfl rfl rfl rfl rfl rfl ((fewest_ok hn (onlyC_bd (refC_bd hv) (Int.ofNat i) j))) ?_
  refine VSt.go tb_ok false [] 200 rfl AllP.n ?_
  refine VSt.splitO 56 rfl (fun g1=>?_) (fun g1=>?_)
  ·have g1:(!(fewM (onlyC (refC s) (Int.ofNat i) j) s.copies.length==(searchS s).cost))=true:=g1
   refine VSt.go tb_ok false [] 200 rfl AllP.n ?_
   refine EndsP.mk rfl rfl rfl ?_
   rw [par_no hv hi hj hpj fun he=>by
    rw [((only_iff hv hne hj).2 he).1,beq_self_eq_true] at g1
    cases g1];rfl
  have g1:(!(fewM (onlyC (refC s) (Int.ofNat i) j) s.copies.length==(searchS s).cost))=false:=g1
  have g1:fewM (onlyC (refC s) (Int.ofNat i) j) s.copies.length=(searchS s).cost:=by simpa using g1
  refine VSt.go tb_ok false [] 200 rfl AllP.n ?_
  refine VSt.pc rfl rfl rfl rfl rfl rfl rfl rfl ((used_ok (a:=i) hn hj (refC_bd hv))) ?_
  refine VSt.go tb_ok false [] 200 rfl AllP.n ?_
  refine VSt.cond rfl (fun g2=>?_) (fun g2=>?_)
  ·have g2:(!(usedB (refC s) s.copies.length i j (searchS s).cost))=true:=g2
   refine VSt.go tb_ok false [] 200 rfl AllP.n ?_
   refine EndsP.mk rfl rfl rfl ?_
   rw [par_no hv hi hj hpj fun he=>by
    rw [((only_iff hv hne hj).2 he).2] at g2
    cases g2];rfl
  have g2:(!(usedB (refC s) s.copies.length i j (searchS s).cost))=false:=g2
  have g2:usedB (refC s) s.copies.length i j (searchS s).cost=true:=by simpa using g2
  have hps:=par_some hv hi hj hpj ((only_iff hv hne hj).1 ⟨g1,g2⟩)
  refine VSt.go tb_ok false [] 200 rfl AllP.n ?_
  refine VSt.pc rfl rfl rfl rfl rfl rfl rfl rfl ((bar_ok hn hi hj)) ?_
  refine VSt.go tb_ok false [] 200 rfl AllP.n ?_
  refine VSt.pc rfl rfl rfl rfl rfl rfl rfl rfl ((fewest_ok hn (barC_bd (refC_bd hv) i j))) ?_
  refine VSt.go tb_ok false [] 200 rfl AllP.n ?_
  refine VSt.cond rfl (fun g3=>?_) (fun g3=>?_)
  ·have g3:(fewM (barC (refC s) i j) s.copies.length==(searchS s).cost)=true:=g3
   have g3:fewM (barC (refC s) i j) s.copies.length=(searchS s).cost:=by simpa using g3
   refine VSt.go tb_ok false [] 200 rfl AllP.n ?_
   refine EndsP.mk rfl rfl rfl ?_
   rw [hps,if_pos ((bar_iff hv hne hj).1 g3)];rfl
  ·have g3:(fewM (barC (refC s) i j) s.copies.length==(searchS s).cost)=false:=g3
   refine VSt.go tb_ok false [] 200 rfl AllP.n ?_
   refine EndsP.mk rfl rfl rfl ?_
   rw [hps,if_neg fun he=>by
    rw [(bar_iff hv hne hj).2 he,beq_self_eq_true] at g3
    cases g3];rfl
 ·have h45:studE s=45∧leastN s=0:=by
   unfold studE at h ⊢
   rw [if_pos h0] at h ⊢
   by_cases hl:(searchS s).least=[]
   ·rw [if_pos hl];exact ⟨rfl,by unfold leastN;rw [hl];rfl⟩
   ·rw [if_neg hl] at h;exact absurd rfl h
  rw [show knownT s = .agg [.p nilP] from if_neg h,h45.1] at hk
  refine VSt.pc rfl rfl rfl rfl rfl rfl rfl rfl (hk) ?_
  refine VSt.go tb_ok false [] 200 rfl AllP.n ?_
  refine VSt.cond rfl (fun h1=>?_) (fun h1=>absurd h1 (by decide))
  refine VSt.go tb_ok false [] 200 rfl AllP.n ?_
  exact EndsP.mk rfl rfl rfl (no 45 (by rw [hE,if_pos h45.2]) (by decide))
end Go.Proofs.YtncpeobcgmkkbaaGreat
/- Walks: the reference's Roots. -/
set_option maxRecDepth 100000
namespace Go.Proofs.YtncpeobcgmkkbaaGreat
variable {r:Tr (List Value×TypeId)}
theorem asc_ext:∀ {l m:List Int},l.Pairwise (· < ·)→m.Pairwise (· < ·)→(∀ x,x∈l ↔ x∈m)→l=m
 | [],[],_,_,_=>rfl
 | [],b::m,_,_,h=>by have:=(h b).2 (by simp);cases this
 | a::l,[],_,_,h=>by have:=(h a).1 (by simp);cases this
 | a::l,b::m,hl,hm,h=>by
  obtain ⟨h1,h2⟩:=List.pairwise_cons.1 hl
  obtain ⟨h3,h4⟩:=List.pairwise_cons.1 hm
  have hab:a=b:=by
   rcases List.mem_cons.1 ((h a).1 (by simp)) with e | e
   ·exact e
   ·rcases List.mem_cons.1 ((h b).2 (by simp)) with e2 | e2
    ·exact e2.symm
    ·have:=h3 a e;have:=h1 b e2;omega
  subst hab
  rw [asc_ext h2 h4 fun x=>?_]
  constructor
  ·intro hx
   have hlt:=h1 x hx
   rcases List.mem_cons.1 ((h x).1 (List.mem_cons_of_mem _ hx)) with e | e
   ·omega
   ·exact e
  ·intro hx
   have hlt:=h3 x hx
   rcases List.mem_cons.1 ((h x).2 (List.mem_cons_of_mem _ hx)) with e | e
   ·omega
   ·exact e
theorem ded_asc {f:Nat→Int} {n:Nat} (hs:∀ i j,i≤j→j<n→f i≤f j):∀ k,k≤n→(ded f k).Pairwise (· < ·)∧∀ x,x∈ded f k→0<k∧x≤f (k - 1)
 | 0,_=>⟨List.Pairwise.nil,fun x h=>by cases h⟩
 | k+1,hk=>by
  obtain ⟨h1,h2⟩:=ded_asc hs k (by omega)
  by_cases h:0<k∧f k=f (k - 1)
  ·rw [ded_skip h.1 h.2]
   refine ⟨h1,fun x hx=>⟨Nat.succ_pos k,?_⟩⟩
   have:=(h2 x hx).2
   show x≤f k
   rw [h.2];exact this
  ·rw [ded_add fun h0 e=>h ⟨h0,e⟩]
   refine ⟨List.pairwise_append.2 ⟨h1,by simp,fun x hx y hy=>?_⟩,fun x hx=>⟨Nat.succ_pos k,?_⟩⟩
   ·have hy:y=f k:=by simpa using hy
    obtain ⟨h3,h4⟩:=h2 x hx
    have h5:=hs (k - 1) k (by omega) (by omega)
    have h6:f k≠f (k - 1):=fun e=>h ⟨h3,e⟩
    omega
   ·show x≤f k
    rcases List.mem_append.1 hx with hx | hx
    ·obtain ⟨h3,h4⟩:=h2 x hx
     have h5:=hs (k - 1) k (by omega) (by omega)
     omega
    ·have hx:x=f k:=by simpa using hx
     omega
theorem setL_asc (n:Nat) (p:Nat→Int):(setL n p).Pairwise (· < ·):=by
 refine (ded_asc (n:=n) (fun i j hij hj=>?_) n (Nat.le_refl n)).1
 have hl:=srt_len n p
 rw [getD_get (by rw [hl];omega),getD_get (by rw [hl];exact hj)]
 rcases Nat.lt_or_eq_of_le hij with h | h
 ·exact List.pairwise_iff_getElem.1 (srt_sorted n p) i j (by rw [hl];omega) (by rw [hl];exact hj) h
 ·subst h;exact Int.le_refl _
def rIds (s:Stem):Nat→List Int
 | 0=>[]
 | k+1=>bif leastM (refC s) s.copies.length k==(searchS s).cost then rIds s k++[idAt s k] else rIds s k
def rIx (s:Stem):Nat→List Int
 | 0=>[]
 | k+1=>bif leastM (refC s) s.copies.length k==(searchS s).cost then rIx s k++[Int.ofNat k] else rIx s k
theorem rIds_eq (s:Stem):∀ k,rIds s k=(rIx s k).map fun x=>idAt s x.toNat
 | 0=>rfl
 | k+1=>by
  unfold rIds rIx
  rw [rIds_eq s k]
  cases leastM (refC s) s.copies.length k==(searchS s).cost with
  | true=>simp
  | false=>rfl
theorem rIx_mem {s:Stem} {x:Int}:∀ {k:Nat},x∈rIx s k ↔ ∃ i,i<k∧x=Int.ofNat i∧leastM (refC s) s.copies.length i=(searchS s).cost
 | 0=>⟨fun h=>(by cases h),fun ⟨i,h,_⟩=>absurd h (Nat.not_lt_zero i)⟩
 | k+1=>by
  unfold rIx
  cases hb:leastM (refC s) s.copies.length k==(searchS s).cost with
  | true =>
   have hb:leastM (refC s) s.copies.length k=(searchS s).cost:=by simpa using hb
   simp only [cond_true]
   rw [List.mem_append,rIx_mem,List.mem_singleton]
   constructor
   ·rintro (⟨i,h1,h2⟩ | h)
    ·exact ⟨i,by omega,h2⟩
    ·exact ⟨k,Nat.lt_succ_self k,h,hb⟩
   ·rintro ⟨i,h1,h2,h3⟩
    by_cases e:i=k
    ·subst e;exact .inr h2
    ·exact .inl ⟨i,by omega,h2,h3⟩
  | false =>
   have hb:¬ leastM (refC s) s.copies.length k=(searchS s).cost:=by simpa using hb
   simp only [cond_false]
   rw [rIx_mem]
   constructor
   ·rintro ⟨i,h1,h2⟩
    exact ⟨i,by omega,h2⟩
   ·rintro ⟨i,h1,h2,h3⟩
    refine ⟨i,?_,h2,h3⟩
    by_cases e:i=k
    ·subst e;exact absurd h3 hb
    ·omega
theorem rIx_asc (s:Stem):∀ k,(rIx s k).Pairwise (· < ·)
 | 0=>List.Pairwise.nil
 | k+1=>by
  unfold rIx
  cases leastM (refC s) s.copies.length k==(searchS s).cost with
  | true =>
   simp only [cond_true]
   refine List.pairwise_append.2 ⟨rIx_asc s k,by simp,fun x hx y hy=>?_⟩
   obtain ⟨i,h1,h2,_⟩:=rIx_mem.1 hx
   have hy:y=Int.ofNat k:=by simpa using hy
   rw [h2,hy];simp only [Int.ofNat_eq_natCast];omega
  | false=>exact rIx_asc s k
theorem roots_eq {s:Stem} (hv:s.Valid) (hm:0<leastN s):rIds s s.copies.length=rootIds s:=by
 have hne:(searchS s).least≠[]:=fun e=>by unfold leastN at hm;rw [e] at hm;exact absurd hm (by decide)
 rw [rIds_eq]
 unfold rootIds
 rw [asc_ext (rIx_asc s s.copies.length) (setL_asc (leastN s) (rix s)) fun x=>?_]
 ·rfl
 ·show _ ↔ x∈rootsL s
  rw [rIx_mem,roots_mem hv]
  constructor
  ·rintro ⟨i,h1,h2,h3⟩
   obtain ⟨q,q1,_,q3⟩:=(least_eq (A:=fun _ _=>true) hv hne h1).1 h3
   obtain ⟨k,k1,k2⟩:=leastT_at hv q1
   exact ⟨k,i,k1,h1,h2,by rw [k2 i h1];exact q3⟩
  ·rintro ⟨q,i,h1,h2,h3,h4⟩
   exact ⟨i,h2,h3,(least_eq (A:=fun _ _=>true) hv hne h2).2 ⟨_,leastAt_T hv h1,allow_true _,h4⟩⟩
def fLI (l:List Int):Nat→List PV:=fInts fun x=>l.getD x 0
theorem app_int (l:List Int) (y:Int) (q:Nat) (hq:q<l.length+1):(bif Nat.blt q l.length then fLI l q else ([PV.int .i64 y].drop ((q - l.length)*1)).take 1)=fLI (l++[y]) q:=by
 unfold fLI fInts
 by_cases e:q<l.length
 ·rw [blt_t e]
  simp only [cond_true,List.getD_eq_getElem?_getD]
  rw [List.getElem?_append_left e]
 ·have:q=l.length:=by omega
  subst this
  rw [blt_f e,Nat.sub_self]
  simp
def growL (l:List Int):VB:=.acc l.length 1 (fLI l) 3
theorem rIds_len (s:Stem):∀ k,(rIds s k).length≤k
 | 0=>Nat.le_refl _
 | k+1=>by
  have:=rIds_len s k
  unfold rIds
  cases leastM (refC s) s.copies.length k==(searchS s).cost with
  | true=>simp;omega
  | false=>exact Nat.le_succ_of_le this
theorem ints_nil {l:List Int} (h:0<l.length):AImp (.p (.lst 3 (true&&Nat.beq l.length 0) l.length (fLI l))) (.p (eInts false l)):=by
 rw [beq_ne (show l.length≠0 by omega)]
 exact AImp.refl _
theorem rRoots_ok {s:Stem} (hs:s.Ok):VP (sE r) 24 [.agg ((eStem s).map .p)] (.tup [.p (if studE s=0 then eInts false (rootIds s) else nilI),iv (studE s)]):=by
 have hk:=known_ok (r:=r) hs
 have ho:AV.only (fun _=>false) (.tup [.p (if studE s=0 then eInts false (rootIds s) else nilI),iv (studE s)])=true:=by
  by_cases h:studE s=0
  ·rw [if_pos h];rfl
  ·rw [if_neg h];rfl
 refine VP.of (fn:=Tryz.f24) tb_ok rfl (by kernel_rfl) rfl rfl ho ?_
 refine VSt.go tb_ok false [] 200 rfl AllP.n ?_
 by_cases h:studE s=0
 ·obtain ⟨hck,hm⟩:=studE_zero h
  have hv:=valid_of hck
  have hn:s.copies.length≤7:=hv.c
  have hrp:0<(rootsL s).length:=setL_pos hm
  rw [show knownT s=treeV s.copies.length (refC s) from if_pos h,show knownN s=(searchS s).cost from if_pos h,h] at hk
  rw [if_pos h,h]
  refine VSt.pc rfl rfl rfl rfl rfl rfl rfl rfl (hk) ?_
  refine VSt.go tb_ok false [] 200 rfl AllP.n ?_
  refine VSt.cond rfl (fun h1=>absurd h1 (by decide)) (fun _=>?_)
  refine VSt.go tb_ok false [] 200 rfl AllP.n ?_
  refine VSt.pc rfl rfl rfl rfl rfl rfl rfl rfl ((Least_ok hn (refC_bd hv))) ?_
  refine VSt.go tb_ok false [] 200 rfl AllP.n ?_
  refine VSt.viewC (Vw.freezeC 0 (eStem s) rfl rfl) ?_
  refine VSt.viewC (Vw.adopt 2 1 (fLI []) 3 rfl) ?_
  refine VSt.viewC (Vw.kp [1,5,7,20,21,22] [(2,2)] rfl) ?_
  refine VSt.rangeT tb_ok s.copies.length (by omega) [1,5,20] (fun k=>[(7,.acc true 2 1 (rIds s k).length)]) (fun k=>[(2,growL (rIds s k))]) (fun _=>True) rfl rfl rfl (fun _=>rfl) rfl rfl (u0_cons rfl AImp.nilAcc u0_nil) (LImp.refl _) trivial (fun k hk _=>?_) (fun _=>?_)
  ·have hlen:=rIds_len s k
   refine VSt.go tb_ok false [] 200 rfl (AllP.c ‹_› (AllP.c rfl AllP.n)) ?_
   refine VSt.cond rfl (fun g=>?_) (fun g=>?_)
   ·have g:(leastM (refC s) s.copies.length k==(searchS s).cost)=true:=g
    have e:rIds s (k+1)=rIds s k++[idAt s k]:=by rw [rIds,g];rfl
    have hN:(rIds s k).length+1=(rIds s (k+1)).length:=by rw [e];simp
    refine VSt.go tb_ok false [7] 200 rfl (AllP.c ‹_› (AllP.c rfl (AllP.c (by omega) (AllP.c (by omega) (AllP.c (fun q hq=>match q,hq with | 0,_=>rfl) (AllP.c rfl (AllP.c rfl (AllP.c rfl AllP.n)))))))) ?_
    refine VSt.putO 38 (.acc true 3 1 (rIds s (k+1)).length) rfl (AImp.acc hN (fun _=>rfl)) ?_
    refine VSt.go tb_ok false [] 200 rfl AllP.n ?_
    refine ⟨?_,trivial⟩
    refine Wk.vw (ps:=[(2,3)]) ⟨rfl,rfl,(by repeat (first | exact wf_nil | refine wf_back rfl rfl rfl ?_)),_,rfl,(⟨rfl,BImp.acc hN (fun q hq=>by rw [e];exact app_int (rIds s k) (idAt s k) q hq),trivial⟩)⟩
   ·have g:(leastM (refC s) s.copies.length k==(searchS s).cost)=false:=g
    have e:rIds s (k+1)=rIds s k:=by rw [rIds,g];rfl
    refine VSt.go tb_ok false [] 200 rfl AllP.n ?_
    refine ⟨?_,trivial⟩
    dsimp only
    rw [e]
    refine Wk.vw (ps:=[(2,2)]) ⟨rfl,rfl,(by repeat (first | exact wf_nil | refine wf_back rfl rfl rfl ?_)),_,rfl,((LImp.refl _))⟩
  ·refine VSt.go tb_ok false [40] 200 rfl AllP.n ?_
   refine VSt.viewO (Vw.kp [7] [(2,2)] rfl) ?_
   refine VSt.viewO (Vw.freezeA 2 rfl rfl ⟨Nat.le_refl _,rfl⟩) ?_
   refine VSt.go tb_ok false [] 200 rfl AllP.n ?_
   refine ⟨rfl,_,rfl,rfl,AImp.tup ⟨?_,AImp.refl _,trivial⟩⟩
   rw [←roots_eq hv hm]
   refine ints_nil ?_
   rw [roots_eq hv hm,rootIds_len];exact hrp
 ·rw [show knownT s = .agg [.p nilP] from if_neg h] at hk
  rw [if_neg h]
  refine VSt.pc rfl rfl rfl rfl rfl rfl rfl rfl (hk) ?_
  refine VSt.go tb_ok false [] 200 rfl AllP.n ?_
  refine VSt.cond rfl (fun h1=>?_) (fun h1=>?_)
  ·refine VSt.go tb_ok false [] 200 rfl AllP.n ?_
   exact ⟨rfl,_,rfl,rfl,AImp.tup ⟨AImp.nil,AImp.refl _,trivial⟩⟩
  ·have h1:(!(studE s==0))=false:=h1
   exact absurd (by simpa using h1) h
end Go.Proofs.YtncpeobcgmkkbaaGreat
/- Walks: the reference's Put, Words, the error of Show. -/
set_option maxRecDepth 100000
namespace Go.Proofs.YtncpeobcgmkkbaaGreat
variable {r:Tr (List Value×TypeId)}
def putP (l:List Int) (n:Int):Nat:=(l.takeWhile fun x=>decide (x<n)).length
theorem putP_eq:∀ {l:List Int} {n:Int} {p:Nat},p≤l.length→(∀ k,k<p→l.getD k 0<n)→(p<l.length→¬ l.getD p 0<n)→putP l n=p
 | [],n,p,h,_,_=>by
  have:p=0:=by simpa using h
  subst this;rfl
 | a::l,n,0,h,h1,h2=>by
  have:=h2 (by simp)
  unfold putP
  rw [List.takeWhile_cons,if_neg (by simpa using this)];rfl
 | a::l,n,p+1,h,h1,h2=>by
  have h0:=h1 0 (by omega)
  have ih:=putP_eq (l:=l) (n:=n) (p:=p) (by simpa using h) (fun k hk=>by simpa using h1 (k+1) (by omega)) (fun hp=>by simpa using h2 (by simpa using hp))
  unfold putP at ih ⊢
  rw [List.takeWhile_cons,if_pos (by simpa using h0),List.length_cons,ih]
theorem putP_le (l:List Int) (n:Int):putP l n≤l.length:=(List.takeWhile_prefix _).length_le
def putIn (l:List Int) (n:Int) (j:Nat):List Int:=l.take j++n::l.drop j
def putL (l:List Int) (n:Int):List Int:=if putP l n<l.length∧l.getD (putP l n) 0=n then l else putIn l n (putP l n)
theorem putIn_len (l:List Int) (n:Int) {j:Nat} (h:j≤l.length):(putIn l n j).length=l.length+1:=by
 unfold putIn;simp;omega
theorem putIn_at (l:List Int) (n:Int) {j:Nat} (h:j≤l.length) (k:Nat):(putIn l n j).getD k 0=if k<j then l.getD k 0 else if k=j then n else l.getD (k - 1) 0:=by
 unfold putIn
 simp only [List.getD_eq_getElem?_getD]
 by_cases h1:k<j
 ·rw [if_pos h1,List.getElem?_append_left (by simp;omega),List.getElem?_take,if_pos h1]
 ·rw [if_neg h1,List.getElem?_append_right (by simp;omega),List.length_take,Nat.min_eq_left h]
  by_cases h2:k=j
  ·subst h2;simp
  ·rw [if_neg h2]
   obtain ⟨m,hm⟩:∃ m,k - j=m+1:=⟨k - j - 1,by omega⟩
   rw [hm,List.getElem?_cons_succ,List.getElem?_drop,show j+m=k - 1 by omega]
theorem putL_ne (l:List Int) (n:Int):(putL l n).isEmpty=false:=by
 unfold putL
 split
 ·rename_i h
  cases l with
  | nil=>exact absurd h.1 (Nat.not_lt_zero _)
  | cons a l=>rfl
 ·unfold putIn
  cases l.take (putP l n) <;> rfl
theorem fin_put {l:List Int} {n:Int} {p N:Nat} {f:Nat→List PV} (hpos:putP l n=p) (hh:¬ (p<l.length∧l.getD p 0=n)) (hN:N=l.length+1) (hf:∀ k,k<N→f k=if k<p then [.int .i64 (l.getD k 0)] else if k=p then [.int .i64 n] else [.int .i64 (l.getD (k - 1) 0)]):AImp (.p (.lst 3 false N f)) (.p (eInts false (putL l n))):=by
 have hp:p≤l.length:=hpos ▸ putP_le l n
 unfold putL
 rw [hpos,if_neg hh]
 show AImp _ (.p (.lst 3 false (putIn l n p).length _))
 rw [putIn_len l n hp,hN]
 refine AImp.lst fun k hk=>?_
 rw [hf k (by omega),putIn_at l n hp]
 split
 ·rfl
 ·split <;> rfl
theorem tki (n:Int) (j:Nat) (h:j=0):List.take 1 (List.drop (j*1) [PV.int .i64 n])=[.int .i64 n]:=by subst h;rfl
set_option maxHeartbeats 4000000 in
theorem put_ok {l:List Int} {n:Int} (hl:l.length≤1000):VP (sE r) 75 [.p (eInts l.isEmpty l),iv n] (.p (eInts false (putL l n))):=by
 refine VP.of (fn:=Tryz.f75) tb_ok rfl (by kernel_rfl) rfl rfl rfl ?_
 refine VSt.go tb_ok false [] 200 rfl AllP.n ?_
 refine VSt.loop (α :=Nat) (fun p F L=>p≤l.length∧(∀ k,k<p→l.getD k 0<n)∧F=[(0,.p (eInts l.isEmpty l)),(1,iv n),(5,nv p)]∧L=[]) (fun p=>l.length - p) 0 (by refine Wk.vw (ps:=[]) ⟨rfl,rfl,(by repeat (first | exact wf_nil | refine wf_back rfl rfl rfl ?_)),_,rfl,(trivial)⟩) ⟨Nat.zero_le _,fun k hk=>absurd hk (Nat.not_lt_zero k),rfl,rfl⟩ ?_
 rintro p F L ⟨hp,hlt,rfl,rfl⟩
 refine VSt.go tb_ok false [] 200 rfl AllP.n ?_
 refine VSt.splitO 10 rfl (fun g1=>?_) (fun g1=>?_)
 ·have hp1:p<l.length:=by have:=of_decide_eq_true g1;simp only [Int.ofNat_eq_natCast] at this;omega
  refine VSt.go tb_ok false [] 200 rfl (AllP.c ‹_› (AllP.c rfl AllP.n)) ?_
  refine VSt.cond rfl (fun g2=>?_) (fun g2=>?_)
  ·have g2:=of_decide_eq_true (show decide (l.getD p 0<n)=true from g2)
   refine VSt.go tb_ok false [] 200 rfl (AllP.c (by unfold inR;(try simp only [Int.ofNat_eq_natCast]);omega) AllP.n) ?_
   refine ⟨p+1,_,_,(by refine Wk.vw (ps:=[]) ⟨rfl,rfl,(by repeat (first | exact wf_nil | refine wf_back rfl rfl rfl ?_)),_,rfl,(trivial)⟩),⟨hp1,fun k hk=>?_,rfl,rfl⟩,by omega⟩
   by_cases e:k=p
   ·rw [e];exact g2
   ·exact hlt k (by omega)
  ·have g2:=of_decide_eq_false (show decide (l.getD p 0<n)=false from g2)
   have hpos:=putP_eq hp hlt (fun _=>g2)
   refine VSt.go tb_ok false [] 200 rfl AllP.n ?_
   refine VSt.splitO 24 rfl (fun g5=>?_) (fun g5=>?_)
   ·refine VSt.go tb_ok false [] 200 rfl (AllP.c ‹_› (AllP.c rfl AllP.n)) ?_
    refine VSt.cond rfl (fun g6=>?_) (fun g6=>?_)
    ·have g6:(l.getD p 0==n)=true:=g6
     have g6:l.getD p 0=n:=by simpa using g6
     have he:l.isEmpty=false:=by
      cases l with
      | nil=>exact absurd hp1 (Nat.not_lt_zero _)
      | cons a l=>rfl
     refine VSt.go tb_ok false [] 200 rfl AllP.n ?_
     refine ⟨rfl,_,rfl,rfl,AImp.of_eq ?_⟩
     rw [show putL l n=l from if_pos (by rw [hpos];exact ⟨hp1,g6⟩)]
     show AV.p (eInts l.isEmpty l)=_
     rw [he]
    have g6:(l.getD p 0==n)=false:=g6
    have hh:¬ (p<l.length∧l.getD p 0=n):=fun h=>by rw [h.2,beq_self_eq_true] at g6;cases g6
    by_cases hp0:p=0
    ·refine VSt.go tb_ok false [37] 200 rfl (AllP.c (by omega) (AllP.c ‹_› (AllP.c (fun _ _=>rfl) AllP.n))) ?_
     refine VSt.go tb_ok true [38] 200 rfl (AllP.c ‹_› AllP.n) ?_
     refine VSt.go tb_ok false [4] 200 rfl (AllP.c (by omega) (AllP.c (by omega) (AllP.c (fun q hq=>match q,hq with | 0,_=>rfl) (AllP.c rfl (AllP.c rfl (AllP.c (by omega) (AllP.c (by omega) (AllP.c ‹_› (AllP.c (by omega) (AllP.c (fun _ _=>rfl) (AllP.c (by omega) (AllP.c (by omega) (AllP.c (fun _ _=>rfl) (AllP.c rfl (AllP.c rfl (AllP.c (by omega) (AllP.c (by omega) AllP.n))))))))))))))))) ?_
     refine VSt.go tb_ok false [] 3 rfl (by (repeat (first | exact AllP.n | refine AllP.c (by first | assumption | rfl | omega | exact Nat.le_refl _ | (show 0<_;omega) | (show 1<_;omega) | (show 2<_;omega) | (show 3<_;omega) | (intro _ _;rfl) | (intro q hq;match q,hq with | 0,_=>rfl) | (unfold inR;(try simp only [Int.ofNat_eq_natCast]);omega)) ?_))) ?_
     first | first | refine VSt.viewC (Vw.kp [4] [(0,1)] rfl) ?_ | refine VSt.viewO (Vw.kp [4] [(0,1)] rfl) ?_ | refine VSt.viewD (Vw.kp [4] [(0,1)] rfl) ?_ | first | refine VSt.viewC (Vw.kp [4] [(0,2)] rfl) ?_ | refine VSt.viewO (Vw.kp [4] [(0,2)] rfl) ?_ | refine VSt.viewD (Vw.kp [4] [(0,2)] rfl) ?_ | first | refine VSt.viewC (Vw.kp [4] [(0,3)] rfl) ?_ | refine VSt.viewO (Vw.kp [4] [(0,3)] rfl) ?_ | refine VSt.viewD (Vw.kp [4] [(0,3)] rfl) ?_ | first | refine VSt.viewC (Vw.kp [4] [(0,4)] rfl) ?_ | refine VSt.viewO (Vw.kp [4] [(0,4)] rfl) ?_ | refine VSt.viewD (Vw.kp [4] [(0,4)] rfl) ?_
     refine VSt.viewC (Vw.freeze 0 rfl rfl ⟨Nat.le_of_eq (Nat.zero_add _),Nat.le_refl _,rfl⟩) ?_
     refine VSt.go tb_ok false [] 200 rfl AllP.n ?_
     refine ⟨rfl,_,rfl,rfl,?_⟩
     refine fin_put hpos hh (by omega) (fun k hk=>?_)
     try simp only [bif_blt,Nat.zero_add,Nat.sub_zero]
     repeat' split
     all_goals first | rfl | (exfalso;omega) | (refine congrArg (fun x=>[PV.int .i64 (l.getD x 0)]) ?_;omega) | exact tki _ _ (by omega)
    ·refine VSt.go tb_ok false [4] 200 rfl (AllP.c (by omega) (AllP.c ‹_› (AllP.c (fun _ _=>rfl) (AllP.c (by omega) (AllP.c (by omega) (AllP.c (fun _ _=>rfl) (AllP.c rfl (AllP.c rfl (AllP.c (by omega) (AllP.c (by omega) (AllP.c (by omega) (AllP.c (by omega) (AllP.c (fun q hq=>match q,hq with | 0,_=>rfl) (AllP.c rfl (AllP.c rfl (AllP.c (by omega) (AllP.c (by omega) (AllP.c ‹_› (AllP.c (by omega) (AllP.c (fun _ _=>rfl) (AllP.c (by omega) (AllP.c (by omega) (AllP.c (fun _ _=>rfl) (AllP.c rfl (AllP.c rfl (AllP.c (by omega) (AllP.c (by omega) AllP.n))))))))))))))))))))))))))) ?_
     refine VSt.go tb_ok false [] 3 rfl (by (repeat (first | exact AllP.n | refine AllP.c (by first | assumption | rfl | omega | exact Nat.le_refl _ | (show 0<_;omega) | (show 1<_;omega) | (show 2<_;omega) | (show 3<_;omega) | (intro _ _;rfl) | (intro q hq;match q,hq with | 0,_=>rfl) | (unfold inR;(try simp only [Int.ofNat_eq_natCast]);omega)) ?_))) ?_
     first | first | refine VSt.viewC (Vw.kp [4] [(0,1)] rfl) ?_ | refine VSt.viewO (Vw.kp [4] [(0,1)] rfl) ?_ | refine VSt.viewD (Vw.kp [4] [(0,1)] rfl) ?_ | first | refine VSt.viewC (Vw.kp [4] [(0,2)] rfl) ?_ | refine VSt.viewO (Vw.kp [4] [(0,2)] rfl) ?_ | refine VSt.viewD (Vw.kp [4] [(0,2)] rfl) ?_ | first | refine VSt.viewC (Vw.kp [4] [(0,3)] rfl) ?_ | refine VSt.viewO (Vw.kp [4] [(0,3)] rfl) ?_ | refine VSt.viewD (Vw.kp [4] [(0,3)] rfl) ?_ | first | refine VSt.viewC (Vw.kp [4] [(0,4)] rfl) ?_ | refine VSt.viewO (Vw.kp [4] [(0,4)] rfl) ?_ | refine VSt.viewD (Vw.kp [4] [(0,4)] rfl) ?_
     refine VSt.viewC (Vw.freeze 0 rfl rfl ⟨Nat.le_of_eq (Nat.zero_add _),Nat.le_refl _,rfl⟩) ?_
     refine VSt.go tb_ok false [] 200 rfl AllP.n ?_
     refine ⟨rfl,_,rfl,rfl,?_⟩
     refine fin_put hpos hh (by omega) (fun k hk=>?_)
     try simp only [bif_blt,Nat.zero_add,Nat.sub_zero]
     repeat' split
     all_goals first | rfl | (exfalso;omega) | (refine congrArg (fun x=>[PV.int .i64 (l.getD x 0)]) ?_;omega) | exact tki _ _ (by omega)
   ·rw [g1] at g5;cases g5
 ·have hp1:p=l.length:=by have:=of_decide_eq_false g1;simp only [Int.ofNat_eq_natCast] at this;omega
  have hpos:=putP_eq hp hlt (fun h=>by omega)
  have hh:¬ (p<l.length∧l.getD p 0=n):=fun h=>by omega
  refine VSt.go tb_ok false [] 200 rfl AllP.n ?_
  refine VSt.splitO 24 rfl (fun g5=>?_) (fun g5=>?_)
  ·rw [g1] at g5;cases g5
  by_cases hp0:p=0
  ·refine VSt.go tb_ok false [37] 200 rfl (AllP.c (by omega) (AllP.c ‹_› (AllP.c (by omega) AllP.n))) ?_
   refine VSt.go tb_ok true [38] 200 rfl (AllP.c ‹_› AllP.n) ?_
   refine VSt.go tb_ok false [44] 200 rfl (AllP.c (by omega) (AllP.c (by omega) (AllP.c (fun q hq=>match q,hq with | 0,_=>rfl) (AllP.c rfl (AllP.c rfl (AllP.c (by omega) (AllP.c (by omega) (AllP.c ‹_› (AllP.c (by omega) (AllP.c (by omega) AllP.n)))))))))) ?_
   refine VSt.go tb_ok true [4] 200 rfl (AllP.c (by omega) AllP.n) ?_
   refine VSt.go tb_ok false [] 3 rfl (by (repeat (first | exact AllP.n | refine AllP.c (by first | assumption | rfl | omega | exact Nat.le_refl _ | (show 0<_;omega) | (show 1<_;omega) | (show 2<_;omega) | (show 3<_;omega) | (intro _ _;rfl) | (intro q hq;match q,hq with | 0,_=>rfl) | (unfold inR;(try simp only [Int.ofNat_eq_natCast]);omega)) ?_))) ?_
   first | first | refine VSt.viewC (Vw.kp [4] [(0,1)] rfl) ?_ | refine VSt.viewO (Vw.kp [4] [(0,1)] rfl) ?_ | refine VSt.viewD (Vw.kp [4] [(0,1)] rfl) ?_ | first | refine VSt.viewC (Vw.kp [4] [(0,2)] rfl) ?_ | refine VSt.viewO (Vw.kp [4] [(0,2)] rfl) ?_ | refine VSt.viewD (Vw.kp [4] [(0,2)] rfl) ?_ | first | refine VSt.viewC (Vw.kp [4] [(0,3)] rfl) ?_ | refine VSt.viewO (Vw.kp [4] [(0,3)] rfl) ?_ | refine VSt.viewD (Vw.kp [4] [(0,3)] rfl) ?_ | first | refine VSt.viewC (Vw.kp [4] [(0,4)] rfl) ?_ | refine VSt.viewO (Vw.kp [4] [(0,4)] rfl) ?_ | refine VSt.viewD (Vw.kp [4] [(0,4)] rfl) ?_
   refine VSt.viewC (Vw.freeze 0 rfl rfl ⟨Nat.le_of_eq (Nat.zero_add _),Nat.le_refl _,rfl⟩) ?_
   refine VSt.go tb_ok false [] 200 rfl AllP.n ?_
   refine ⟨rfl,_,rfl,rfl,?_⟩
   refine fin_put hpos hh (by omega) (fun k hk=>?_)
   try simp only [bif_blt,Nat.zero_add,Nat.sub_zero]
   repeat' split
   all_goals first | rfl | (exfalso;omega) | (refine congrArg (fun x=>[PV.int .i64 (l.getD x 0)]) ?_;omega) | exact tki _ _ (by omega)
  ·refine VSt.go tb_ok false [44] 200 rfl (AllP.c (by omega) (AllP.c ‹_› (AllP.c (fun _ _=>rfl) (AllP.c (by omega) (AllP.c (by omega) (AllP.c (fun _ _=>rfl) (AllP.c rfl (AllP.c rfl (AllP.c (by omega) (AllP.c (by omega) (AllP.c (by omega) (AllP.c (by omega) (AllP.c (fun q hq=>match q,hq with | 0,_=>rfl) (AllP.c rfl (AllP.c rfl (AllP.c (by omega) (AllP.c (by omega) (AllP.c ‹_› (AllP.c (by omega) (AllP.c (fun _ _=>rfl) AllP.n)))))))))))))))))))) ?_
   refine VSt.go tb_ok true [4] 200 rfl (AllP.c (by omega) AllP.n) ?_
   refine VSt.go tb_ok false [] 3 rfl (by (repeat (first | exact AllP.n | refine AllP.c (by first | assumption | rfl | omega | exact Nat.le_refl _ | (show 0<_;omega) | (show 1<_;omega) | (show 2<_;omega) | (show 3<_;omega) | (intro _ _;rfl) | (intro q hq;match q,hq with | 0,_=>rfl) | (unfold inR;(try simp only [Int.ofNat_eq_natCast]);omega)) ?_))) ?_
   first | first | refine VSt.viewC (Vw.kp [4] [(0,1)] rfl) ?_ | refine VSt.viewO (Vw.kp [4] [(0,1)] rfl) ?_ | refine VSt.viewD (Vw.kp [4] [(0,1)] rfl) ?_ | first | refine VSt.viewC (Vw.kp [4] [(0,2)] rfl) ?_ | refine VSt.viewO (Vw.kp [4] [(0,2)] rfl) ?_ | refine VSt.viewD (Vw.kp [4] [(0,2)] rfl) ?_ | first | refine VSt.viewC (Vw.kp [4] [(0,3)] rfl) ?_ | refine VSt.viewO (Vw.kp [4] [(0,3)] rfl) ?_ | refine VSt.viewD (Vw.kp [4] [(0,3)] rfl) ?_ | first | refine VSt.viewC (Vw.kp [4] [(0,4)] rfl) ?_ | refine VSt.viewO (Vw.kp [4] [(0,4)] rfl) ?_ | refine VSt.viewD (Vw.kp [4] [(0,4)] rfl) ?_
   refine VSt.viewC (Vw.freeze 0 rfl rfl ⟨Nat.le_of_eq (Nat.zero_add _),Nat.le_refl _,rfl⟩) ?_
   refine VSt.go tb_ok false [] 200 rfl AllP.n ?_
   refine ⟨rfl,_,rfl,rfl,?_⟩
   refine fin_put hpos hh (by omega) (fun k hk=>?_)
   try simp only [bif_blt,Nat.zero_add,Nat.sub_zero]
   repeat' split
   all_goals first | rfl | (exfalso;omega) | (refine congrArg (fun x=>[PV.int .i64 (l.getD x 0)]) ?_;omega) | exact tki _ _ (by omega)
def putR:List Int→Int→List Int
 | [],n=>[n]
 | a::l,n=>if a<n then a::putR l n else if a=n then a::l else n::a::l
theorem putL_eq:∀ (l:List Int) (n:Int),putL l n=putR l n
 | [],n=>rfl
 | a::l,n=>by
  have ih:=putL_eq l n
  by_cases h:a<n
  ·have hp:putP (a::l) n=putP l n+1:=by
    unfold putP
    rw [List.takeWhile_cons,if_pos (by simpa using h)];rfl
   rw [putR,if_pos h,←ih]
   unfold putL
   rw [hp]
   by_cases hc:putP l n<l.length∧l.getD (putP l n) 0=n
   ·rw [if_pos hc,if_pos ⟨by simpa using hc.1,by simpa using hc.2⟩]
   ·rw [if_neg hc,if_neg (fun h2=>hc ⟨by simpa using h2.1,by simpa using h2.2⟩)]
    unfold putIn
    simp
  ·have hp:putP (a::l) n=0:=by
    unfold putP
    rw [List.takeWhile_cons,if_neg (by simpa using h)];rfl
   rw [putR,if_neg h]
   unfold putL
   rw [hp]
   by_cases e:a=n
   ·rw [if_pos e,if_pos ⟨by simp,by simpa using e⟩]
   ·rw [if_neg e,if_neg (fun h2=>e (by simpa using h2.2))]
    rfl
theorem putR_mem {x:Int}:∀ {l:List Int} {n:Int},x∈putR l n ↔ x∈l∨x=n
 | [],n=>by simp [putR]
 | a::l,n=>by
  unfold putR
  split
  ·rw [List.mem_cons,putR_mem,List.mem_cons,or_assoc]
  ·split
   ·rename_i h;rw [List.mem_cons]
    constructor
    ·exact .inl
    ·rintro (h2 | h2)
     ·exact h2
     ·exact .inl (h2.trans h.symm)
   ·rw [List.mem_cons]
    exact or_comm
theorem putR_asc:∀ {l:List Int} {n:Int},l.Pairwise (· < ·)→(putR l n).Pairwise (· < ·)
 | [],n,_=>by simp [putR]
 | a::l,n,h=>by
  obtain ⟨h1,h2⟩:=List.pairwise_cons.1 h
  unfold putR
  split
  ·rename_i hlt
   refine List.pairwise_cons.2 ⟨fun x hx=>?_,putR_asc h2⟩
   rcases putR_mem.1 hx with hx | hx
   ·exact h1 x hx
   ·omega
  ·split
   ·exact h
   ·refine List.pairwise_cons.2 ⟨fun x hx=>?_,h⟩
    rcases List.mem_cons.1 hx with hx | hx
    ·omega
    ·have:=h1 x hx;omega
def wlM (s:Stem) (x:Nat):Nat→List Int
 | 0=>[]
 | k+1=>putL (wlM s x k) (wd s ((rootsL s).getD k 0).toNat x)
theorem wlM_mem {s:Stem} {x:Nat} {y:Int}:∀ {k:Nat},y∈wlM s x k ↔ ∃ i,i<k∧wd s ((rootsL s).getD i 0).toNat x=y
 | 0=>⟨fun h=>(by cases h),fun ⟨i,h,_⟩=>absurd h (Nat.not_lt_zero i)⟩
 | k+1=>by
  unfold wlM
  rw [putL_eq,putR_mem,wlM_mem]
  constructor
  ·rintro (⟨i,h1,h2⟩ | h)
   ·exact ⟨i,by omega,h2⟩
   ·exact ⟨k,Nat.lt_succ_self k,h.symm⟩
  ·rintro ⟨i,h1,h2⟩
   by_cases e:i=k
   ·subst e;exact .inr h2.symm
   ·exact .inl ⟨i,by omega,h2⟩
theorem wlM_asc (s:Stem) (x:Nat):∀ k,(wlM s x k).Pairwise (· < ·)
 | 0=>List.Pairwise.nil
 | k+1=>by
  unfold wlM
  rw [putL_eq]
  exact putR_asc (wlM_asc s x k)
theorem putL_len (l:List Int) (n:Int):(putL l n).length≤l.length+1:=by
 unfold putL
 split
 ·omega
 ·rw [putIn_len l n (putP_le l n)];exact Nat.le_refl _
theorem wlM_len (s:Stem) (x:Nat):∀ k,(wlM s x k).length≤k
 | 0=>Nat.le_refl _
 | k+1=>by
  have h1:=wlM_len s x k
  have h2:=putL_len (wlM s x k) (wd s ((rootsL s).getD k 0).toNat x)
  unfold wlM;omega
theorem wlM_all (s:Stem) (x:Nat):wlM s x (rootsL s).length=wordsL s x:=by
 refine asc_ext (wlM_asc s x _) (setL_asc _ _) fun y=>?_
 rw [wlM_mem]
 unfold wordsL
 rw [setL_mem]
theorem rootsL_few {s:Stem} (hv:s.Valid) (hm:0<leastN s):(rootsL s).length≤s.copies.length:=by
 rw [←rootIds_len,←roots_eq hv hm]
 exact rIds_len s s.copies.length
theorem rWords_ok {s:Stem} (hs:s.Ok) (q:Int):VP (sE r) 26 [.agg ((eStem s).map .p),iv q] (.tup [.p (if wordsE s q=0 then eInts false (wordsL s q.toNat) else nilI),iv (wordsE s q)]):=by
 have hro:=rRoots_ok (r:=r) hs
 have ho:AV.only (fun _=>false) (.tup [.p (if wordsE s q=0 then eInts false (wordsL s q.toNat) else nilI),iv (wordsE s q)])=true:=by
  by_cases h:wordsE s q=0
  ·rw [if_pos h];rfl
  ·rw [if_neg h];rfl
 have no:∀ e,wordsE s q=e→¬ e=0→AImp (.tup [.p (.lst 0 true 0 fun _=>[]),iv e]) (.tup [.p (if wordsE s q=0 then eInts false (wordsL s q.toNat) else nilI),iv (wordsE s q)]):=fun e h1 h2=>by
  rw [h1,if_neg h2];exact AImp.tup ⟨AImp.nil,AImp.refl _,trivial⟩
 refine VP.of (fn:=Tryz.f26) tb_ok rfl (by kernel_rfl) rfl rfl ho ?_
 refine VSt.go tb_ok false [] 200 rfl AllP.n ?_
 refine VSt.pc rfl rfl rfl rfl rfl rfl rfl rfl ((rCheck_ok s hs)) ?_
 refine VSt.go tb_ok false [] 200 rfl AllP.n ?_
 refine VSt.cond rfl (fun h1=>?_) (fun h1=>?_)
 ·have h1:¬ ckStem s=0:=by simpa using h1
  refine VSt.go tb_ok false [] 200 rfl AllP.n ?_
  exact ⟨rfl,_,rfl,rfl,no _ (if_neg h1) h1⟩
 have h1:ckStem s=0:=by simpa using h1
 have hv:=valid_of h1
 have hn:s.copies.length≤7:=hv.c
 refine VSt.go tb_ok false [] 200 rfl AllP.n ?_
 refine VSt.splitO 21 rfl (fun g1=>?_) (fun g1=>?_)
 ·have g1:(Int.ofNat s.copies.length==0)=true:=g1
  have g1:s.copies.length=0:=by
   have:Int.ofNat s.copies.length=0:=by simpa using g1
   exact Int.ofNat_inj.1 this
  have h2:¬ wth q 0 (Int.ofNat (placesN s) - 1)=true:=fun h=>by
   have:=wth_iff.1 h
   have hp:placesN s=0:=if_pos g1
   rw [hp] at this
   simp only [Int.ofNat_eq_natCast] at this;omega
  refine VSt.go tb_ok false [] 200 rfl AllP.n ?_
  exact ⟨rfl,_,rfl,rfl,no 46 (by unfold wordsE;rw [if_pos h1,if_neg h2]) (by decide)⟩
 have g1:(Int.ofNat s.copies.length==0)=false:=g1
 have g1:0<s.copies.length:=by
  have:¬ Int.ofNat s.copies.length=0:=by simpa using g1
  simp only [Int.ofNat_eq_natCast] at this;omega
 have hpn:placesN s=(s.copies.getD 0 default).words.length:=if_neg (by omega)
 have hw:=(ckCopy_of (hv.copy g1)).2.1
 refine VSt.go tb_ok false [] 200 rfl (AllP.c ‹_› (AllP.c rfl (AllP.c (by unfold inR;(try simp only [Int.ofNat_eq_natCast]);omega) AllP.n))) ?_
 refine VSt.pc rfl rfl rfl rfl rfl rfl rfl rfl ((rWithin_ok q 0 (Int.ofNat (s.copies.getD 0 default).words.length - 1))) ?_
 refine VSt.go tb_ok false [] 200 rfl AllP.n ?_
 refine VSt.cond rfl (fun h2=>?_) (fun h2=>?_)
 ·have h2:¬ wth q 0 (Int.ofNat (placesN s) - 1)=true:=by rw [hpn];simpa using h2
  refine VSt.go tb_ok false [] 200 rfl AllP.n ?_
  exact ⟨rfl,_,rfl,rfl,no 46 (by unfold wordsE;rw [if_pos h1,if_neg h2]) (by decide)⟩
 have h2:wth q 0 (Int.ofNat (placesN s) - 1)=true:=by rw [hpn];simpa using h2
 have h3:=wth_iff.1 h2
 have hq:q=Int.ofNat q.toNat:=by simp only [Int.ofNat_eq_natCast];omega
 have hql:q.toNat<(s.copies.getD 0 default).words.length:=by
  have:=h3.2
  rw [hpn] at this
  simp only [Int.ofNat_eq_natCast] at this;omega
 refine VSt.go tb_ok false [] 200 rfl AllP.n ?_
 rcases Nat.eq_zero_or_pos (leastN s) with hm | hm
 ·have hE:studE s=45:=by unfold studE;rw [if_pos h1,if_pos (List.length_eq_zero_iff.1 hm)]
  rw [hE,if_neg (by decide)] at hro
  refine VSt.pc rfl rfl rfl rfl rfl rfl rfl rfl (hro) ?_
  refine VSt.go tb_ok false [] 200 rfl AllP.n ?_
  refine VSt.cond rfl (fun _=>?_) (fun h=>absurd h (by decide))
  refine VSt.go tb_ok false [] 200 rfl AllP.n ?_
  exact ⟨rfl,_,rfl,rfl,no 45 (by unfold wordsE;rw [if_pos h1,if_pos h2,if_pos hm]) (by decide)⟩
 ·have hE:studE s=0:=by unfold studE;rw [if_pos h1,if_neg (fun e=>by unfold leastN at hm;rw [e] at hm;exact absurd hm (by decide))]
  have hW:wordsE s q=0:=by unfold wordsE;rw [if_pos h1,if_pos h2,if_neg (by omega)]
  have hrl:=rootsL_few hv hm
  have hrp:0<(rootsL s).length:=setL_pos hm
  rw [hE,if_pos rfl] at hro
  refine VSt.pc rfl rfl rfl rfl rfl rfl rfl rfl (hro) ?_
  refine VSt.go tb_ok false [] 200 rfl AllP.n ?_
  refine VSt.cond rfl (fun h=>absurd h (by decide)) (fun _=>?_)
  refine VSt.go tb_ok false [] 200 rfl AllP.n ?_
  refine VSt.viewC (Vw.freezeC 0 (eStem s) rfl rfl) ?_
  refine VSt.rangeT tb_ok (rootIds s).length (by rw [rootIds_len];omega) [1,2,41] (fun k=>[(9,.p (eInts (wlM s q.toNat k).isEmpty (wlM s q.toNat k)))]) (fun _=>[]) (fun _=>True) rfl rfl rfl (fun _=>rfl) rfl rfl (u0_cons rfl AImp.nil u0_nil) trivial trivial (fun k hk _=>?_) (fun _=>?_)
  ·have hk2:k<(rootsL s).length:=by rw [←rootIds_len];exact hk
   have hr:=root_at hv hk2
   have hwi:=hv.words hr.1
   have hid:=rootIds_at s hk2
   have hpl:place s ((rootIds s).getD k 0)=Int.ofNat ((rootsL s).getD k 0).toNat:=by rw [hid];exact place_at hv hr.1
   have hwl:=wlM_len s q.toNat k
   refine VSt.go tb_ok false [] 200 rfl (AllP.c ‹_› (AllP.c rfl AllP.n)) ?_
   refine VSt.pcD rfl rfl rfl rfl rfl rfl rfl rfl ((place_ok s ((rootIds s).getD k 0) hs.c)) ?_
   refine VSt.go tb_ok false [53] 200 rfl AllP.n ?_
   refine VSt.putD 52 (nv ((rootsL s).getD k 0).toNat) rfl (iv_nv hpl) ?_
   refine VSt.go tb_ok false [57] 200 rfl (AllP.c (by omega) (AllP.c rfl AllP.n)) ?_
   refine VSt.putD 56 (nv q.toNat) rfl (iv_nv hq) ?_
   refine VSt.go tb_ok false [] 200 rfl (AllP.c (by omega) (AllP.c rfl AllP.n)) ?_
   refine VSt.pcD rfl rfl rfl rfl rfl rfl rfl rfl ((put_ok (l:=wlM s q.toNat k) (n:=wd s ((rootsL s).getD k 0).toNat q.toNat) (by omega))) ?_
   refine VSt.putD 59 (.p (eInts (wlM s q.toNat (k+1)).isEmpty (wlM s q.toNat (k+1)))) rfl (AImp.of_eq (by rw [wlM,putL_ne])) ?_
   refine VSt.go tb_ok false [] 200 rfl AllP.n ?_
   refine ⟨?_,trivial⟩
   refine Wk.vw (ps:=[]) ⟨rfl,rfl,(by repeat (first | exact wf_nil | refine wf_back rfl rfl rfl ?_)),_,rfl,(trivial)⟩
  ·refine VSt.go tb_ok false [] 200 rfl AllP.n ?_
   refine ⟨rfl,_,rfl,rfl,?_⟩
   rw [hW,if_pos rfl,rootIds_len]
   refine AImp.tup ⟨AImp.of_eq ?_,AImp.refl _,trivial⟩
   rw [wlM_all]
   have:(wordsL s q.toNat).isEmpty=false:=by
    have h5:=setL_pos (p:=fun k=>wd s ((rootsL s).getD k 0).toNat q.toNat) hrp
    unfold wordsL
    cases hx:setL (rootsL s).length fun k=>wd s ((rootsL s).getD k 0).toNat q.toNat with
    | nil=>rw [hx] at h5;exact absurd h5 (by decide)
    | cons a l=>rfl
   rw [this];rfl
theorem show_any {s:Stem} (hv:s.Valid) {root:Int} {i:Nat} (hi:i<s.copies.length) (hr:place s root=Int.ofNat i):((rootIds s).any fun y=>y==root)=(showQ s i).isSome:=by
 have hid:idAt s i=root:=by
  have:=(place_id (s:=s) (a:=root) (by rw [hr];simp only [Int.ofNat_eq_natCast];omega)).2
  rw [hr] at this;exact this
 cases hq:showQ s i with
 | some q =>
  obtain ⟨h1,h2⟩:=firstN_of hq
  have h3:idOf s (leastAt s q i)=0:=by unfold isRootB at h2;simpa using h2
  have h4:=(idOf_zero hv ((leastAt_T hv h1).1.part.lt i hi)).1 h3
  show _=true
  rw [List.any_eq_true]
  refine ⟨idAt s i,?_,by rw [hid];exact beq_self_eq_true _⟩
  unfold rootIds
  exact List.mem_map.2 ⟨Int.ofNat i,(roots_mem hv).2 ⟨q,i,h1,hi,rfl,h4⟩,rfl⟩
 | none =>
  show _=false
  rw [List.any_eq_false]
  intro y hy hye
  have hye:y=root:=by simpa using hye
  unfold rootIds at hy
  obtain ⟨x,h1,h2⟩:=List.mem_map.1 hy
  obtain ⟨q,j,h3,h4,h5,h6⟩:=(roots_mem hv).1 h1
  have hji:j=i:=by
   rw [h5] at h2
   exact idAt_inj hv h4 hi (by rw [hid,←hye];exact h2)
  subst hji
  obtain ⟨k,hk⟩:=firstN_ex (p:=isRootB s j) h3 (by
   unfold isRootB
   rw [(idOf_zero hv ((leastAt_T hv h3).1.part.lt j h4)).2 h6];rfl)
  unfold showQ at hq
  rw [hk] at hq;cases hq
theorem showError_ok {s:Stem} (hs:s.Ok) (root:Int):VP (sE r) 32 [.agg ((eStem s).map .p),iv root] (iv (showE s root)):=by
 have hro:=rRoots_ok (r:=r) hs
 refine VP.of (fn:=Tryz.f32) tb_ok rfl (by kernel_rfl) rfl rfl rfl ?_
 refine VSt.go tb_ok false [] 200 rfl AllP.n ?_
 refine VSt.pc rfl rfl rfl rfl rfl rfl rfl rfl ((rCheck_ok s hs)) ?_
 refine VSt.go tb_ok false [] 200 rfl AllP.n ?_
 refine VSt.cond rfl (fun h1=>?_) (fun h1=>?_)
 ·have h1:¬ ckStem s=0:=by simpa using h1
  refine VSt.go tb_ok false [] 200 rfl AllP.n ?_
  refine EndsP.mk rfl rfl rfl ?_
  rw [show showE s root=ckStem s from if_neg h1];rfl
 have h1:ckStem s=0:=by simpa using h1
 have hv:=valid_of h1
 refine VSt.go tb_ok false [] 200 rfl AllP.n ?_
 refine VSt.pc rfl rfl rfl rfl rfl rfl rfl rfl ((place_ok s root hs.c)) ?_
 refine VSt.go tb_ok false [] 200 rfl AllP.n ?_
 refine VSt.cond rfl (fun h2=>?_) (fun h2=>?_)
 ·have h2:=of_decide_eq_true (show decide (place s root<0)=true from h2)
  refine VSt.go tb_ok false [] 200 rfl AllP.n ?_
  refine EndsP.mk rfl rfl rfl ?_
  rw [show showE s root=1 by unfold showE;rw [if_pos h1,if_pos h2]];rfl
 have h2':decide (place s root<0)=false:=h2
 have h2:=of_decide_eq_false h2'
 refine Exists.elim (place_nat (s:=s) (a:=root) h2') fun i hi=>?_
 have hie:=hi.2
 have hi:=hi.1
 refine VSt.go tb_ok false [] 200 rfl AllP.n ?_
 rcases Nat.eq_zero_or_pos (leastN s) with hm | hm
 ·have hE:studE s=45:=by unfold studE;rw [if_pos h1,if_pos (List.length_eq_zero_iff.1 hm)]
  rw [hE,if_neg (by decide)] at hro
  refine VSt.pc rfl rfl rfl rfl rfl rfl rfl rfl (hro) ?_
  refine VSt.go tb_ok false [] 200 rfl AllP.n ?_
  refine VSt.splitO 24 rfl (fun g=>?_) (fun g=>?_)
  ·exact absurd g (by decide)
  refine VSt.go tb_ok false [] 200 rfl AllP.n ?_
  refine EndsP.mk rfl rfl rfl ?_
  rw [show showE s root=45 by unfold showE;rw [if_pos h1,if_neg h2,if_pos hm]];rfl
 ·have hE:studE s=0:=by unfold studE;rw [if_pos h1,if_neg (fun e=>by unfold leastN at hm;rw [e] at hm;exact absurd hm (by decide))]
  have hrl:=rootsL_few hv hm
  have hn:s.copies.length≤7:=hv.c
  have hany:=show_any hv hi hie
  have hS:showE s root=match showQ s i with | some _=>0 | none=>3:=by
   unfold showE
   rw [if_pos h1,if_neg h2,if_neg (by omega),hie];rfl
  rw [hE,if_pos rfl] at hro
  refine VSt.pc rfl rfl rfl rfl rfl rfl rfl rfl (hro) ?_
  refine VSt.go tb_ok false [] 200 rfl AllP.n ?_
  refine VSt.splitO 24 rfl (fun g=>?_) (fun g=>?_)
  ·refine VSt.go tb_ok false [] 200 rfl AllP.n ?_
   refine VSt.pc rfl rfl rfl rfl rfl rfl rfl rfl ((Lists_ok root (by rw [rootIds_len];omega))) ?_
   refine VSt.go tb_ok false [] 200 rfl AllP.n ?_
   refine VSt.cond rfl (fun g2=>?_) (fun g2=>?_)
   ·have g2:(!((rootIds s).any fun y=>y==root))=true:=g2
    rw [hany] at g2
    refine VSt.go tb_ok false [] 200 rfl AllP.n ?_
    refine EndsP.mk rfl rfl rfl ?_
    rw [hS]
    cases hq:showQ s i with
    | none=>rfl
    | some q=>rw [hq] at g2;cases g2
   ·have g2:(!((rootIds s).any fun y=>y==root))=false:=g2
    rw [hany] at g2
    refine VSt.go tb_ok false [] 200 rfl AllP.n ?_
    refine EndsP.mk rfl rfl rfl ?_
    rw [hS]
    cases hq:showQ s i with
    | some q=>rfl
    | none=>rw [hq] at g2;cases g2
  ·exact absurd g (by decide)
end Go.Proofs.YtncpeobcgmkkbaaGreat
/- Walks: the reference's Agreed. -/
set_option maxRecDepth 100000
namespace Go.Proofs.YtncpeobcgmkkbaaGreat
variable {r:Tr (List Value×TypeId)}
def rootN (s:Stem) (k:Nat):Nat:=((rootsL s).getD k 0).toNat
def agM (s:Stem):Nat→Nat→Int
 | 0=>fun x=>wd s (rootN s 0) x
 | k+1=>fun x=>bif agM s k x==wd s (rootN s k) x then agM s k x else -1
theorem agM_all {s:Stem} {x:Nat}:∀ {k:Nat},(∀ i,i<k→wd s (rootN s i) x=wd s (rootN s 0) x)→agM s k x=wd s (rootN s 0) x
 | 0,_=>rfl
 | k+1,h=>by
  have ih:=agM_all (k:=k) fun i hi=>h i (by omega)
  show (bif agM s k x==wd s (rootN s k) x then agM s k x else -1)=_
  rw [ih,h k (Nat.lt_succ_self k),beq_self_eq_true];rfl
theorem wd_bd {s:Stem} (hv:s.Valid) {i x:Nat} (hi:i<s.copies.length) (hx:x<(s.copies.getD i default).words.length):0≤wd s i x:=(hv.wd hi hx).1
theorem agM_text {s:Stem} (hv:s.Valid) (hm:0<leastN s) {x:Nat} (hx:x<placesN s):agM s (rootsL s).length x=textF s x:=by
 have hrp:0<(rootsL s).length:=setL_pos hm
 have hri:∀ i,i<(rootsL s).length→rootN s i<s.copies.length:=fun i hi=>(root_at hv hi).1
 have hpn:placesN s=(s.copies.getD 0 default).words.length:=if_neg (by have:=hri 0 hrp;omega)
 have hmem:∀ y,y∈wordsL s x ↔ ∃ k,k<(rootsL s).length∧wd s (rootN s k) x=y:=fun y=>setL_mem
 have hasc:(wordsL s x).Pairwise (· < ·):=setL_asc _ _
 unfold textF
 by_cases hall:∀ i,i<(rootsL s).length→wd s (rootN s i) x=wd s (rootN s 0) x
 ·have he:wordsL s x=[wd s (rootN s 0) x]:=asc_ext hasc (by simp) fun y=>by
   rw [hmem,List.mem_singleton]
   constructor
   ·rintro ⟨k,h1,h2⟩
    rw [←h2];exact hall k h1
   ·intro h
    exact ⟨0,hrp,h.symm⟩
  rw [agM_all hall,he];rfl
 ·have hex:∃ i,i<(rootsL s).length∧wd s (rootN s i) x≠wd s (rootN s 0) x:=Classical.byContradiction fun hn=>hall fun i hi=>Classical.byContradiction fun h2=>hn ⟨i,hi,h2⟩
  have hneg:∀ k,k≤(rootsL s).length→(∃ i,i<k∧wd s (rootN s i) x≠wd s (rootN s 0) x)→agM s k x = -1:=by
   intro k
   induction k with
   | zero=>rintro _ ⟨i,h1,_⟩;omega
   | succ k ih =>
    intro hk h
    show (bif agM s k x==wd s (rootN s k) x then agM s k x else -1)=_
    have hkb:0≤wd s (rootN s k) x:=wd_bd hv (hri k (by omega)) (by rw [hv.words (hri k (by omega)),←hpn];exact hx)
    by_cases hk2:∃ i,i<k∧wd s (rootN s i) x≠wd s (rootN s 0) x
    ·rw [ih (by omega) hk2,beq_false_of_ne (by omega)];rfl
    ·have hal:∀ i,i<k→wd s (rootN s i) x=wd s (rootN s 0) x:=fun i hi=>Classical.byContradiction fun hn=>hk2 ⟨i,hi,hn⟩
     obtain ⟨i,h1,h2⟩:=h
     have:i=k:=by
      by_cases e:i=k
      ·exact e
      ·exact absurd (hal i (by omega)) h2
     subst this
     rw [agM_all hal,beq_false_of_ne (fun e=>h2 e.symm)];rfl
  rw [hneg _ (Nat.le_refl _) hex]
  have hl:(wordsL s x).length≠1:=fun hl=>by
   obtain ⟨i,h1,h2⟩:=hex
   match hw:wordsL s x,hl with
   | [a],_ =>
    have m1:=(hmem (wd s (rootN s i) x)).2 ⟨i,h1,rfl⟩
    have m2:=(hmem (wd s (rootN s 0) x)).2 ⟨0,hrp,rfl⟩
    rw [hw] at m1 m2
    have m1:wd s (rootN s i) x=a:=by simpa using m1
    have m2:wd s (rootN s 0) x=a:=by simpa using m2
    exact h2 (m1.trans m2.symm)
  rw [beq_false_of_ne (show Int.ofNat (wordsL s x).length≠1 by simp only [Int.ofNat_eq_natCast];omega)];rfl
def agR (s:Stem) (k q:Nat):Nat→List PV:=fInts fun x=>bif Nat.blt x q then agM s (k+1) x else agM s k x
set_option maxHeartbeats 4000000 in
theorem rAgreed_ok {s:Stem} (hs:s.Ok):VP (sE r) 28 [.agg ((eStem s).map .p)] (.tup [.p (if studE s=0 then eInts false (textL s) else nilI),iv (studE s)]):=by
 have hro:=rRoots_ok (r:=r) hs
 have ho:AV.only (fun _=>false) (.tup [.p (if studE s=0 then eInts false (textL s) else nilI),iv (studE s)])=true:=by
  by_cases h:studE s=0
  ·rw [if_pos h];rfl
  ·rw [if_neg h];rfl
 refine VP.of (fn:=Tryz.f28) tb_ok rfl (by kernel_rfl) rfl rfl ho ?_
 refine VSt.go tb_ok false [] 200 rfl AllP.n ?_
 by_cases h:studE s=0
 ·obtain ⟨hck,hm⟩:=studE_zero h
  have hv:=valid_of hck
  have hn:s.copies.length≤7:=hv.c
  have hrp:0<(rootsL s).length:=setL_pos hm
  have hrl:=rootsL_few hv hm
  have hri:∀ i,i<(rootsL s).length→rootN s i<s.copies.length:=fun i hi=>(root_at hv hi).1
  have hpn:placesN s=(s.copies.getD 0 default).words.length:=if_neg (by have:=hri 0 hrp;omega)
  have hwn:∀ i,i<(rootsL s).length→(s.copies.getD (rootN s i) default).words.length=placesN s:=fun i hi=>by rw [hv.words (hri i hi),hpn]
  have hpl:∀ k,k<(rootsL s).length→place s ((rootIds s).getD k 0)=Int.ofNat (rootN s k):=fun k hk=>by rw [rootIds_at s hk];exact place_at hv (hri k hk)
  have hw0:=(ckCopy_of (hv.copy (hri 0 hrp))).2.1
  rw [hwn 0 hrp] at hw0
  have hp1:0<placesN s:=by omega
  have hp2:placesN s≤16:=by omega
  have hr0:=hri 0 hrp
  have hi0:0<(rootIds s).length:=by rw [rootIds_len];exact hrp
  rw [h,if_pos rfl] at hro
  rw [if_pos h,h]
  refine VSt.pc rfl rfl rfl rfl rfl rfl rfl rfl (hro) ?_
  refine VSt.go tb_ok false [] 200 rfl AllP.n ?_
  refine VSt.cond rfl (fun h1=>absurd h1 (by decide)) (fun _=>?_)
  refine VSt.go tb_ok false [] 200 rfl (AllP.c ‹_› (AllP.c rfl AllP.n)) ?_
  refine VSt.pcD rfl rfl rfl rfl rfl rfl rfl rfl ((place_ok s ((rootIds s).getD 0 0) hs.c)) ?_
  refine VSt.go tb_ok false [27] 200 rfl AllP.n ?_
  refine VSt.putD 26 (nv (rootN s 0)) rfl (iv_nv (hpl 0 hrp)) ?_
  have hl0:0<(s.copies.getD (rootN s 0) default).words.length:=by rw [hwn 0 hrp];exact hp1
  have hl1:0+(s.copies.getD (rootN s 0) default).words.length≤1048576:=by rw [hwn 0 hrp];omega
  refine VSt.go tb_ok false [] 200 rfl (AllP.c ‹_› (AllP.c rfl (AllP.c ‹_› (AllP.c ‹_› (AllP.c (fun _ _=>rfl) (AllP.c rfl (AllP.c rfl (AllP.c (by omega) (AllP.c (by omega) AllP.n))))))))) ?_
  refine VSt.viewC (Vw.freezeC 0 (eStem s) rfl rfl) ?_
  refine VSt.rangeT tb_ok (rootIds s).length (by rw [rootIds_len];omega) [1,6,31] (fun _=>[]) (fun k=>[(2,.arr (0+(s.copies.getD (rootN s 0) default).words.length) 1 (fInts (agM s k)) 3)]) (fun _=>True) rfl rfl rfl (fun _=>rfl) rfl rfl u0_nil ⟨rfl,BImp.arr (fun i hi=>?_),trivial⟩ trivial (fun k hk _=>?_) (fun _=>?_)
  ·show (bif Nat.blt i 0 then _ else _)=_
   rw [show Nat.blt i 0=false from rfl];rfl
  ·have hk2:k<(rootsL s).length:=by rw [←rootIds_len];exact hk
   have hwk:=hwn k hk2
   have hr:=hri k hk2
   refine VSt.go tb_ok false [] 200 rfl (AllP.c ‹_› (AllP.c rfl AllP.n)) ?_
   refine VSt.pcD rfl rfl rfl rfl rfl rfl rfl rfl ((place_ok s ((rootIds s).getD k 0) hs.c)) ?_
   refine VSt.go tb_ok false [42] 200 rfl AllP.n ?_
   refine VSt.putD 41 (nv (rootN s k)) rfl (iv_nv (hpl k hk2)) ?_
   refine VSt.go tb_ok false [] 200 rfl (AllP.c ‹_› (AllP.c rfl AllP.n)) ?_
   have hw16:(s.copies.getD (rootN s k) default).words.length≤16:=by rw [hwk];exact hp2
   refine VSt.rangeT tb_ok (s.copies.getD (rootN s k) default).words.length (by omega) [1,6,31,32,33,44] (fun _=>[]) (fun q=>[(2,.arr (0+(s.copies.getD (rootN s 0) default).words.length) 1 (agR s k q) 3)]) (fun _=>True) rfl rfl rfl (fun _=>rfl) rfl rfl u0_nil ⟨rfl,BImp.arr (fun i hi=>?_),trivial⟩ trivial (fun q hq _=>?_) (fun _=>?_)
   ·show [PV.int .i64 (agM s k i)]=[PV.int .i64 (bif Nat.blt i 0 then agM s (k+1) i else agM s k i)]
    rw [show Nat.blt i 0=false from rfl];rfl
   ·have hqm:q<(0+(s.copies.getD (rootN s 0) default).words.length):=by rw [Nat.zero_add,hwn 0 hrp,←hwk];exact hq
    refine VSt.go tb_ok false [] 200 rfl (AllP.c ‹_› (AllP.c rfl (AllP.c ‹_› (AllP.c rfl (AllP.c (by omega) (AllP.c rfl AllP.n)))))) ?_
    refine VSt.cond rfl (fun h3=>?_) (fun h3=>?_)
    ·have h3:(!((bif Nat.blt (0+q) q then agM s (k+1) (0+q) else agM s k (0+q))==wd s (rootN s k) q))=true:=h3
     rw [Nat.zero_add,blt_f (Nat.lt_irrefl q)] at h3
     have h3:(agM s k q==wd s (rootN s k) q)=false:=by simpa using h3
     refine VSt.go tb_ok false [] 200 rfl (AllP.c ‹_› (AllP.c rfl (AllP.c (by omega) (AllP.c rfl (AllP.c (Nat.le_refl _) AllP.n))))) ?_
     refine ⟨?_,trivial⟩
     refine Wk.vw (ps:=[(2,2)]) ⟨rfl,rfl,(by repeat (first | exact wf_nil | refine wf_back rfl rfl rfl ?_)),_,rfl,(⟨rfl,BImp.arr (fun i hi=>?_),trivial⟩)⟩
     refine (set_cell (fun x=>bif Nat.blt x q then agM s (k+1) x else agM s k x) q (-1) i).trans ?_
     show [PV.int .i64 (setP (fun x=>bif Nat.blt x q then agM s (k+1) x else agM s k x) q (-1) i)]=[PV.int .i64 (bif Nat.blt i (q+1) then agM s (k+1) i else agM s k i)]
     by_cases he:i=q
     ·subst he
      rw [setP_eq,blt_t (Nat.lt_succ_self i)]
      show [PV.int .i64 (-1)]=[PV.int .i64 (bif agM s k i==wd s (rootN s k) i then agM s k i else -1)]
      rw [h3];rfl
     ·rw [setP_ne he]
      by_cases hlt:i<q
      ·rw [blt_t hlt,blt_t (show i<q+1 by omega)]
      ·rw [blt_f hlt,blt_f (show ¬ i<q+1 by omega)]
    ·have h3:(!((bif Nat.blt (0+q) q then agM s (k+1) (0+q) else agM s k (0+q))==wd s (rootN s k) q))=false:=h3
     rw [Nat.zero_add,blt_f (Nat.lt_irrefl q)] at h3
     have h3:(agM s k q==wd s (rootN s k) q)=true:=by simpa using h3
     refine VSt.go tb_ok false [] 200 rfl AllP.n ?_
     refine ⟨?_,trivial⟩
     refine Wk.vw (ps:=[(2,2)]) ⟨rfl,rfl,(by repeat (first | exact wf_nil | refine wf_back rfl rfl rfl ?_)),_,rfl,(⟨rfl,BImp.arr (fun i hi=>?_),trivial⟩)⟩
     show [PV.int .i64 (bif Nat.blt i q then agM s (k+1) i else agM s k i)]=[PV.int .i64 (bif Nat.blt i (q+1) then agM s (k+1) i else agM s k i)]
     by_cases hlt:i<q
     ·rw [blt_t hlt,blt_t (show i<q+1 by omega)]
     ·by_cases he:i=q
      ·subst he
       rw [blt_f hlt,blt_t (Nat.lt_succ_self i)]
       show [PV.int .i64 (agM s k i)]=[PV.int .i64 (bif agM s k i==wd s (rootN s k) i then agM s k i else -1)]
       rw [h3];rfl
      ·rw [blt_f hlt,blt_f (show ¬ i<q+1 by omega)]
   ·refine VSt.go tb_ok false [] 200 rfl AllP.n ?_
    refine ⟨?_,trivial⟩
    refine Wk.vw (ps:=[(2,2)]) ⟨rfl,rfl,(by repeat (first | exact wf_nil | refine wf_back rfl rfl rfl ?_)),_,rfl,(⟨rfl,BImp.arr (fun i hi=>?_),trivial⟩)⟩
    show [PV.int .i64 (bif Nat.blt i (s.copies.getD (rootN s k) default).words.length then agM s (k+1) i else agM s k i)]=[PV.int .i64 (agM s (k+1) i)]
    rw [blt_t (show i<(s.copies.getD (rootN s k) default).words.length by rw [hwk,←hwn 0 hrp];omega)];rfl
  ·refine VSt.run tb_ok false [] 1 rfl trivial ?_
   refine VSt.viewC (Vw.freeze 2 rfl rfl ⟨by omega,Nat.le_refl _,rfl⟩) ?_
   refine VSt.go tb_ok false [] 200 rfl AllP.n ?_
   refine ⟨rfl,_,rfl,rfl,AImp.tup ⟨?_,AImp.refl _,trivial⟩⟩
   show AImp (.p (.lst 3 false (0+(s.copies.getD (rootN s 0) default).words.length) _)) (.p (.lst 3 false (textL s).length _))
   rw [textL_len,Nat.zero_add,hwn 0 hrp]
   refine AImp.lst fun q hq=>?_
   show [PV.int .i64 (agM s (rootIds s).length (0+q))]=[PV.int .i64 ((textL s).getD q 0)]
   rw [Nat.zero_add,rootIds_len,agM_text hv hm hq,textL_at s hq]
 ·rw [if_neg h] at hro
  rw [if_neg h]
  refine VSt.pc rfl rfl rfl rfl rfl rfl rfl rfl (hro) ?_
  refine VSt.go tb_ok false [] 200 rfl AllP.n ?_
  refine VSt.cond rfl (fun h1=>?_) (fun h1=>?_)
  ·refine VSt.go tb_ok false [] 200 rfl AllP.n ?_
   exact ⟨rfl,_,rfl,rfl,AImp.tup ⟨AImp.nil,AImp.refl _,trivial⟩⟩
  ·have h1:(!(studE s==0))=false:=h1
   exact absurd (by simpa using h1) h
end Go.Proofs.YtncpeobcgmkkbaaGreat
/- A valid stem without a copy is valid. -/
set_option maxRecDepth 100000
namespace Go.Proofs.YtncpeobcgmkkbaaGreat
theorem cmpI_neg (a b:Int):cmpI a b<0 ↔ a<b:=by
 unfold cmpI
 by_cases h:a<b
 ·rw [if_pos h];exact ⟨fun _=>h,fun _=>by decide⟩
 ·rw [if_neg h]
  by_cases h2:a > b
  ·rw [if_pos h2];exact ⟨fun h3=>absurd h3 (by decide),fun h3=>absurd h3 h⟩
  ·rw [if_neg h2];exact ⟨fun h3=>absurd h3 (by decide),fun h3=>absurd h3 h⟩
theorem cmpI_zero (a b:Int):cmpI a b=0 ↔ a=b:=by
 unfold cmpI
 by_cases h:a<b
 ·rw [if_pos h];exact ⟨fun h3=>absurd h3 (by decide),fun h3=>by omega⟩
 ·rw [if_neg h]
  by_cases h2:a > b
  ·rw [if_pos h2];exact ⟨fun h3=>absurd h3 (by decide),fun h3=>by omega⟩
  ·rw [if_neg h2];exact ⟨fun _=>by omega,fun _=>rfl⟩
theorem cmpN_lt (a b:Never):cmpN a b<0 ↔ a.src<b.src∨(a.src=b.src∧a.dst<b.dst):=by
 unfold cmpN
 by_cases h:cmpI a.src b.src=0
 ·rw [if_pos h,cmpI_neg]
  have:=(cmpI_zero _ _).1 h
  constructor
  ·intro h2;exact .inr ⟨this,h2⟩
  ·rintro (h2 | h2)
   ·omega
   ·exact h2.2
 ·rw [if_neg h,cmpI_neg]
  have:a.src≠b.src:=fun e=>h ((cmpI_zero _ _).2 e)
  constructor
  ·exact .inl
  ·rintro (h2 | h2)
   ·exact h2
   ·exact absurd h2.1 this
theorem pair_of {α : Type} [Inhabited α] {R : α → α → Prop} (ht:∀ a b c,R a b→R b c→R a c):∀ {l:List α},(∀ k,0<k→k<l.length→R (l.getD (k - 1) default) (l.getD k default))→l.Pairwise R
 | [],_=>List.Pairwise.nil
 | [a],_=>by simp
 | a::b::l,h=>by
  have ih:=pair_of ht (l:=b::l) fun k h0 hk=>by
   have:=h (k+1) (by omega) (by simpa using hk)
   obtain ⟨m,rfl⟩:∃ m,k=m+1:=⟨k - 1,by omega⟩
   simpa using this
  refine List.pairwise_cons.2 ⟨fun x hx=>?_,ih⟩
  have hab:R a b:=by have:=h 1 (by decide) (by simp);simpa using this
  rcases List.mem_cons.1 hx with rfl | hx
  ·exact hab
  ·exact ht _ _ _ hab ((List.pairwise_cons.1 ih).1 x hx)
theorem pair_at {α : Type} [Inhabited α] {R : α → α → Prop} {l:List α} (h:l.Pairwise R) {k:Nat} (h0:0<k) (hk:k<l.length):R (l.getD (k - 1) default) (l.getD k default):=by
 rw [getD_get hk,getD_get (show k - 1<l.length by omega)]
 exact List.pairwise_iff_getElem.1 h (k - 1) k (by omega) hk (by omega)
theorem place_in {s:Stem} {a:Int} (h:∃ c,c∈s.copies∧c.id=a):0≤place s a:=by
 unfold place idxC
 cases hf:s.copies.findIdx? (fun c=>c.id==a) with
 | none =>
  rw [List.findIdx?_eq_none_iff] at hf
  obtain ⟨c,h1,h2⟩:=h
  have:=hf c h1
  rw [h2,beq_self_eq_true] at this;cases this
 | some k=>show (0:Int)≤(k:Int);omega
theorem in_place {s:Stem} {a:Int} (h:0≤place s a):∃ c,c∈s.copies∧c.id=a:=by
 obtain ⟨h1,h2⟩:=place_id h
 have h3:idAt s (place s a).toNat=(s.copies[(place s a).toNat]).id:=by unfold idAt;rw [getD_get h1]
 exact ⟨_,List.getElem_mem h1,h3.symm.trans h2⟩
theorem less_ck {s:Stem} (hck:ckStem s=0) (id:Int):ckStem (lessM s id)=0:=by
 have hv:=valid_of hck
 have hC:(lessM s id).copies=s.copies.filter (fun x=>!isId id x):=lessC_all s id
 have hN:(lessM s id).never=s.never.filter (fun x=>!hasId id x):=lessN_all s id
 have hcl:(s.copies.filter (fun x=>!isId id x)).length≤s.copies.length:=List.length_filter_le _ _
 have hnl:(s.never.filter (fun x=>!hasId id x)).length≤s.never.length:=List.length_filter_le _ _
 have hc7:=hv.c
 have hn40:=hv.n
 have hcosts:(ckCosts s.costs==0)=true:=by
  cases hcc:(ckCosts s.costs==0) with
  | true=>rfl
  | false =>
   unfold ckStem at hck
   rw [hcc] at hck
   exfalso
   rw [if_pos (by simp)] at hck
   exact absurd hck (by decide)
 have mem_at:∀ c,c∈s.copies→∃ k,k<s.copies.length∧s.copies.getD k default=c:=fun c hc=>by
  obtain ⟨k,hk,rfl⟩:=List.mem_iff_getElem.1 hc
  exact ⟨k,hk,getD_get hk⟩
 have okC:∀ c,c∈s.copies→ckCopy c=0∧c.words.length=(s.copies.getD 0 default).words.length:=fun c hc=>by
  obtain ⟨k,hk,rfl⟩:=mem_at c hc
  exact ⟨hv.copy hk,hv.words hk⟩
 have pwC:s.copies.Pairwise fun a b=>a.id<b.id:=pair_of (R:=fun a b:Copy=>a.id<b.id) (fun _ _ _ h1 h2=>Int.lt_trans h1 h2) fun k h0 hk=>hv.asc hk h0
 have okN:∀ n,n∈s.never→n.src≠n.dst∧0≤place s n.src∧0≤place s n.dst:=fun n hn=>by
  obtain ⟨k,hk,rfl⟩:=List.mem_iff_getElem.1 hn
  have h:=hv.nv k hk
  unfold badN at h
  rw [getD_get hk,Bool.or_eq_false_iff,Bool.or_eq_false_iff,Bool.or_eq_false_iff] at h
  obtain ⟨h1,h2,h3,_⟩:=h
  have h2:=of_decide_eq_false h2
  have h3:=of_decide_eq_false h3
  exact ⟨by simpa using h1,by omega,by omega⟩
 have pwN:s.never.Pairwise fun a b=>cmpN a b<0:=by
  refine pair_of (fun a b c h1 h2=>?_) fun k h0 hk=>?_
  ·rw [cmpN_lt] at h1 h2 ⊢;omega
  ·have h:=hv.nv k hk
   unfold badN at h
   rw [Bool.or_eq_false_iff,Bool.or_eq_false_iff,Bool.or_eq_false_iff] at h
   obtain ⟨_,_,_,h4⟩:=h
   rw [decide_eq_true h0,Bool.true_and] at h4
   have:=of_decide_eq_false h4
   omega
 have memC:∀ c,c∈s.copies.filter (fun x=>!isId id x) ↔ c∈s.copies∧c.id≠id:=fun c=>by
  rw [List.mem_filter]
  unfold isId
  simp
 have memN:∀ n,n∈s.never.filter (fun x=>!hasId id x) ↔ n∈s.never∧n.src≠id∧n.dst≠id:=fun n=>by
  rw [List.mem_filter]
  unfold hasId
  simp
 have hplace:∀ a,a≠id→0≤place s a→0≤place (lessM s id) a:=fun a ha hp=>by
  obtain ⟨c,h1,h2⟩:=in_place hp
  refine place_in ⟨c,?_,h2⟩
  rw [hC,memC]
  exact ⟨h1,by rw [h2];exact ha⟩
 unfold ckStem
 rw [if_neg]
 intro h
 rw [Bool.or_eq_true,Bool.or_eq_true,Bool.or_eq_true,Bool.or_eq_true] at h
 rcases h with h | h | h | h | h
 ·have h:=of_decide_eq_true h
  rw [hC] at h;simp only [Int.ofNat_eq_natCast] at h;omega
 ·have h:=of_decide_eq_true h
  rw [hN] at h;simp only [Int.ofNat_eq_natCast] at h;omega
 ·have:(lessM s id).costs=s.costs:=rfl
  rw [this,hcosts] at h;cases h
 ·obtain ⟨k,hk,hb⟩:=List.any_eq_true.1 h
  have hk:=List.mem_range.1 hk
  rw [hC] at hk hb
  have hin:(s.copies.filter (fun x=>!isId id x)).getD k default∈s.copies.filter (fun x=>!isId id x):=by rw [getD_get hk];exact List.getElem_mem hk
  have hin0:(s.copies.filter (fun x=>!isId id x)).getD 0 default∈s.copies.filter (fun x=>!isId id x):=by rw [getD_get (show 0<_ by omega)];exact List.getElem_mem _
  obtain ⟨o1,o2⟩:=okC _ ((memC _).1 hin).1
  obtain ⟨_,o3⟩:=okC _ ((memC _).1 hin0).1
  unfold badC at hb
  rw [o1,o2,o3] at hb
  have:(decide (0<k)&&decide (((s.copies.filter (fun x=>!isId id x)).getD k default).id≤((s.copies.filter (fun x=>!isId id x)).getD (k - 1) default).id))=false:=by
   by_cases h0:0<k
   ·have:=pair_at (pwC.filter (fun x=>!isId id x)) h0 hk
    rw [decide_eq_true h0,Bool.true_and];exact decide_eq_false (by omega)
   ·rw [decide_eq_false h0];rfl
  rw [this] at hb
  simp at hb
 ·obtain ⟨k,hk,hb⟩:=List.any_eq_true.1 h
  have hk:=List.mem_range.1 hk
  unfold badN at hb
  rw [hN] at hk hb
  have hin:(s.never.filter (fun x=>!hasId id x)).getD k default∈s.never.filter (fun x=>!hasId id x):=by rw [getD_get hk];exact List.getElem_mem hk
  obtain ⟨m1,m2,m3⟩:=(memN _).1 hin
  obtain ⟨o1,o2,o3⟩:=okN _ m1
  have p1:=hplace _ m2 o2
  have p2:=hplace _ m3 o3
  have:(decide (0<k)&&decide (0≤cmpN ((s.never.filter (fun x=>!hasId id x)).getD (k - 1) default) ((s.never.filter (fun x=>!hasId id x)).getD k default)))=false:=by
   by_cases h0:0<k
   ·have:=pair_at (pwN.filter (fun x=>!hasId id x)) h0 hk
    rw [decide_eq_true h0,Bool.true_and];exact decide_eq_false (by omega)
   ·rw [decide_eq_false h0];rfl
  rw [this,beq_false_of_ne o1,decide_eq_false (by omega),decide_eq_false (by omega)] at hb
  simp at hb
theorem leastTo_flags (a b a' b':Bool) (cs:List Copy) (co:Costs) (nv:List Never) (c:Nat):∀ k,leastTo ⟨a,cs,co,b,nv⟩ c k=leastTo ⟨a',cs,co,b',nv⟩ c k
 | 0=>rfl
 | k+1=>by
  unfold leastTo
  rw [leastTo_flags a b a' b' cs co nv c k];rfl
theorem floorT_flags (a b a' b':Bool) (cs:List Copy) (co:Costs) (nv:List Never) (i:Nat):∀ d,floorT ⟨a,cs,co,b,nv⟩ i d=floorT ⟨a',cs,co,b',nv⟩ i d
 | 0=>rfl
 | d+1=>by
  unfold floorT
  rw [floorT_flags a b a' b' cs co nv i d,leastTo_flags a b a' b']
theorem cut_flags (a b a' b':Bool) (cs:List Copy) (co:Costs) (nv:List Never) (i:Nat) (c:Int) (σ : SS):cutB ⟨a,cs,co,b,nv⟩ i c σ = cutB ⟨a',cs,co,b',nv⟩ i c σ :=by
 unfold cutB floorI
 rw [floorT_flags a b a' b']
theorem loopS_flags (a b a' b':Bool) (cs:List Copy) (co:Costs) (nv:List Never) (i:Nat) (c:Int) (f:Int→SS→SS):∀ n σ,loopS ⟨a,cs,co,b,nv⟩ i c f n σ = loopS ⟨a',cs,co,b',nv⟩ i c f n σ
 | 0,_=>rfl
 | n+1,σ =>by
  unfold loopS
  rw [loopS_flags a b a' b' cs co nv i c f n σ];rfl
theorem stepS_flags (a b a' b':Bool) (cs:List Copy) (co:Costs) (nv:List Never):∀ k i c rt σ,stepS ⟨a,cs,co,b,nv⟩ k i c rt σ = stepS ⟨a',cs,co,b',nv⟩ k i c rt σ
 | 0,_,_,_,_=>by unfold stepS;rw [cut_flags a b a' b']
 | k+1,i,c,rt,σ =>by
  have ih:=stepS_flags a b a' b' cs co nv k
  have h1:(fun c' σ'=>stepS ⟨a,cs,co,b,nv⟩ k (i+1) c' rt σ')=fun c' σ'=>stepS ⟨a',cs,co,b',nv⟩ k (i+1) c' rt σ':=funext fun c'=>funext fun σ'=>ih _ _ _ _
  unfold stepS
  rw [ih,h1,loopS_flags a b a' b',cut_flags a b a' b']
theorem search_flags (a b a' b':Bool) (cs:List Copy) (co:Costs) (nv:List Never):searchS ⟨a,cs,co,b,nv⟩=searchS ⟨a',cs,co,b',nv⟩:=stepS_flags a b a' b' cs co nv _ _ _ _ _
theorem roots_flags (a b a' b':Bool) (cs:List Copy) (co:Costs) (nv:List Never):rootsL ⟨a,cs,co,b,nv⟩=rootsL ⟨a',cs,co,b',nv⟩:=by
 have h:=search_flags a b a' b' cs co nv
 unfold rootsL rix leastN leastAt
 rw [h];rfl
theorem words_flags (a b a' b':Bool) (cs:List Copy) (co:Costs) (nv:List Never) (x:Nat):wordsL ⟨a,cs,co,b,nv⟩ x=wordsL ⟨a',cs,co,b',nv⟩ x:=by
 have h:=roots_flags a b a' b' cs co nv
 unfold wordsL
 rw [h];rfl
theorem text_flags (a b a' b':Bool) (cs:List Copy) (co:Costs) (nv:List Never):textL ⟨a,cs,co,b,nv⟩=textL ⟨a',cs,co,b',nv⟩:=by
 have h:textF ⟨a,cs,co,b,nv⟩=textF ⟨a',cs,co,b',nv⟩:=funext fun x=>by
  unfold textF
  rw [words_flags a b a' b']
 unfold textL
 rw [h];rfl
theorem text_less (s:Stem) (id:Int):textL (lessP s id)=textL (lessM s id):=text_flags _ _ _ _ _ _ _
theorem least_less (s:Stem) (id:Int):leastN (lessM s id)=leastN (lessP s id):=congrArg (fun x:SS=>x.least.length) (search_flags _ _ _ _ _ _ _)
theorem ck_less (s:Stem) (id:Int):ckStem (lessP s id)=ckStem (lessM s id):=rfl
theorem less_Ok (s:Stem) (hs:s.Ok) (hck:ckStem s=0) (id:Int):(lessM s id).Ok:=by
 have hv:=valid_of (less_ck hck id)
 have h1:=hv.c
 have h2:=hv.n
 exact ⟨by omega,fun k hk=>by have:=(ckCopy_of (hv.copy hk)).2.1.2;omega,by omega⟩
theorem lessP_Ok (s:Stem) (hs:s.Ok) (hck:ckStem s=0) (id:Int):(lessP s id).Ok:=by
 have h:=less_Ok s hs hck id
 exact ⟨h.c,h.w,h.n⟩
def movB (s:Stem) (k:Nat):Bool:=!(studE (lessM s (idAt s k))==0) || !(textL (lessM s (idAt s k))==textL s)
def movF (s:Stem):Nat→List Int
 | 0=>[]
 | k+1=>bif movB s k then movF s k++[idAt s k] else movF s k
theorem movF_len (s:Stem):∀ k,(movF s k).length≤k
 | 0=>Nat.le_refl _
 | k+1=>by
  have:=movF_len s k
  unfold movF
  cases movB s k with
  | true=>simp;omega
  | false=>exact Nat.le_succ_of_le this
end Go.Proofs.YtncpeobcgmkkbaaGreat
/- Walks: Moved, of both sides. -/
set_option maxRecDepth 100000
namespace Go.Proofs.YtncpeobcgmkkbaaGreat
variable {r:Tr (List Value×TypeId)}
theorem same2_ok {b1 b2:Bool} {l m:List Int} (hl:l.length<9223372036854775808):VP (sE r) 16 [.p (eInts b1 l),.p (eInts b2 m)] (bv (l==m)):=by
 refine VP.of (fn:=Tryz.f16) tb_ok rfl (by kernel_rfl) rfl rfl rfl ?_
 refine VSt.go tb_ok false [] 200 rfl AllP.n ?_
 refine VSt.cond rfl (fun h=>?_) (fun h=>?_)
 ·have h:(!(Int.ofNat l.length==Int.ofNat m.length))=true:=h
  refine VSt.go tb_ok false [] 200 rfl AllP.n ?_
  refine EndsP.mk rfl rfl rfl ?_
  rw [show (l==m)=false from beq_false_of_ne fun e=>by rw [e,beq_self_eq_true] at h;cases h];rfl
 have h:(!(Int.ofNat l.length==Int.ofNat m.length))=false:=h
 have hlm:l.length=m.length:=by
  have:Int.ofNat l.length=Int.ofNat m.length:=by simpa using h
  exact Int.ofNat_inj.1 this
 refine VSt.go tb_ok false [] 200 rfl AllP.n ?_
 refine VSt.rangeT tb_ok l.length hl [0,1] (fun _=>[]) (fun _=>[]) (fun k=>∀ i,i<k→l.getD i 0=m.getD i 0) rfl rfl rfl (fun _=>rfl) rfl rfl u0_nil trivial (fun i hi=>absurd hi (Nat.not_lt_zero i)) (fun k hk hp=>?_) (fun hp=>?_)
 ·have hkm:k<m.length:=by omega
  refine VSt.go tb_ok false [] 200 rfl (AllP.c ‹_› (AllP.c rfl (AllP.c ‹_› (AllP.c rfl AllP.n)))) ?_
  refine VSt.cond rfl (fun g=>?_) (fun g=>?_)
  ·have g:(!(l.getD k 0==m.getD k 0))=true:=g
   refine VSt.go tb_ok false [] 200 rfl AllP.n ?_
   refine EndsP.mk rfl rfl rfl ?_
   rw [show (l==m)=false from beq_false_of_ne fun e=>by rw [e,beq_self_eq_true] at g;cases g];rfl
  ·have g:(!(l.getD k 0==m.getD k 0))=false:=g
   have g:l.getD k 0=m.getD k 0:=by simpa using g
   refine VSt.go tb_ok false [] 200 rfl AllP.n ?_
   refine ⟨?_,fun i hi=>?_⟩
   ·refine Wk.vw (ps:=[]) ⟨rfl,rfl,(by repeat (first | exact wf_nil | refine wf_back rfl rfl rfl ?_)),_,rfl,(trivial)⟩
   ·by_cases e:i=k
    ·rw [e];exact g
    ·exact hp i (by omega)
 ·refine VSt.go tb_ok false [] 200 rfl AllP.n ?_
  refine EndsP.mk rfl rfl rfl ?_
  have e:l=m:=List.ext_getElem hlm fun i h1 h2=>by
   have:=hp i h1
   rwa [getD_get h1,getD_get h2] at this
  rw [e,beq_self_eq_true];rfl
theorem equal_ok {b1 b2:Bool} {l m:List Int} (hl:l.length<9223372036854775808):VP (sE r) 78 [.p (eInts b1 l),.p (eInts b2 m)] (bv (l==m)):=by
 refine VP.of (fn:=Tryz.f78) tb_ok rfl (by kernel_rfl) rfl rfl rfl ?_
 refine VSt.go tb_ok false [] 200 rfl AllP.n ?_
 refine VSt.cond rfl (fun h=>?_) (fun h=>?_)
 ·have h:(!(Int.ofNat l.length==Int.ofNat m.length))=true:=h
  refine VSt.go tb_ok false [] 200 rfl AllP.n ?_
  refine EndsP.mk rfl rfl rfl ?_
  rw [show (l==m)=false from beq_false_of_ne fun e=>by rw [e,beq_self_eq_true] at h;cases h];rfl
 have h:(!(Int.ofNat l.length==Int.ofNat m.length))=false:=h
 have hlm:l.length=m.length:=by
  have:Int.ofNat l.length=Int.ofNat m.length:=by simpa using h
  exact Int.ofNat_inj.1 this
 refine VSt.go tb_ok false [] 200 rfl AllP.n ?_
 refine VSt.rangeT tb_ok l.length hl [0,1] (fun _=>[]) (fun _=>[]) (fun k=>∀ i,i<k→l.getD i 0=m.getD i 0) rfl rfl rfl (fun _=>rfl) rfl rfl u0_nil trivial (fun i hi=>absurd hi (Nat.not_lt_zero i)) (fun k hk hp=>?_) (fun hp=>?_)
 ·have hkm:k<m.length:=by omega
  refine VSt.go tb_ok false [] 200 rfl (AllP.c ‹_› (AllP.c rfl (AllP.c ‹_› (AllP.c rfl AllP.n)))) ?_
  refine VSt.cond rfl (fun g=>?_) (fun g=>?_)
  ·have g:(!(l.getD k 0==m.getD k 0))=true:=g
   refine VSt.go tb_ok false [] 200 rfl AllP.n ?_
   refine EndsP.mk rfl rfl rfl ?_
   rw [show (l==m)=false from beq_false_of_ne fun e=>by rw [e,beq_self_eq_true] at g;cases g];rfl
  ·have g:(!(l.getD k 0==m.getD k 0))=false:=g
   have g:l.getD k 0=m.getD k 0:=by simpa using g
   refine VSt.go tb_ok false [] 200 rfl AllP.n ?_
   refine ⟨?_,fun i hi=>?_⟩
   ·refine Wk.vw (ps:=[]) ⟨rfl,rfl,(by repeat (first | exact wf_nil | refine wf_back rfl rfl rfl ?_)),_,rfl,(trivial)⟩
   ·by_cases e:i=k
    ·rw [e];exact g
    ·exact hp i (by omega)
 ·refine VSt.go tb_ok false [] 200 rfl AllP.n ?_
  refine EndsP.mk rfl rfl rfl ?_
  have e:l=m:=List.ext_getElem hlm fun i h1 h2=>by
   have:=hp i h1
   rwa [getD_get h1,getD_get h2] at this
  rw [e,beq_self_eq_true];rfl
theorem hasId_at {s:Stem} {k:Nat} (hk:k<s.copies.length):¬ idxG s.copies (isId (idAt s k)) = -1:=by
 intro h
 unfold idxG at h
 cases hf:s.copies.findIdx? (isId (idAt s k)) with
 | none =>
  rw [List.findIdx?_eq_none_iff] at hf
  have:=hf _ (List.getElem_mem hk)
  unfold isId idAt at this
  rw [getD_get hk,beq_self_eq_true] at this
  cases this
 | some q=>rw [hf] at h;have h:(q:Int) = -1:=h;omega
theorem less_studE {s:Stem} (hck:ckStem s=0) (id:Int):studE (lessM s id)=if leastN (lessM s id)=0 then 45 else 0:=by
 unfold studE
 rw [if_pos (less_ck hck id)]
 unfold leastN
 by_cases h:(searchS (lessM s id)).least=[]
 ·rw [if_pos h,if_pos (by rw [h];rfl)]
 ·rw [if_neg h,if_neg (fun e=>h (List.length_eq_zero_iff.1 e))]
def movV (s:Stem):PV:=if studE s=0 then eInts (movF s s.copies.length).isEmpty (movF s s.copies.length) else nilI
theorem movV_only (s:Stem):AV.only (fun _=>false) (.tup [.p (movV s),iv (studE s)])=true:=by
 unfold movV
 split <;> rfl
theorem mov_end (l:List Int):AV.p (.lst 3 (true&&Nat.beq l.length 0) l.length (fLI l)) = .p (eInts l.isEmpty l):=by
 cases l <;> rfl
set_option maxHeartbeats 4000000 in
theorem rMoved_ok {s:Stem} (hs:s.Ok):VP (sE r) 30 [.agg ((eStem s).map .p)] (.tup [.p (movV s),iv (studE s)]):=by
 have hro:=rAgreed_ok (r:=r) hs
 refine VP.of (fn:=Tryz.f30) tb_ok rfl (by kernel_rfl) rfl rfl (movV_only s) ?_
 refine VSt.go tb_ok false [] 200 rfl AllP.n ?_
 by_cases h:studE s=0
 ·obtain ⟨hck,hm⟩:=studE_zero h
  have hv:=valid_of hck
  have hn:s.copies.length≤7:=hv.c
  have hn4:s.never.length≤40:=hv.n
  have htl:(textL s).length<9223372036854775808:=by
   rw [textL_len]
   unfold placesN
   split
   ·omega
   ·have:=(ckCopy_of (hv.copy (k:=0) (by omega))).2.1.2;omega
  rw [h,if_pos rfl] at hro
  rw [show movV s=_ from if_pos h,h]
  refine VSt.pc rfl rfl rfl rfl rfl rfl rfl rfl (hro) ?_
  refine VSt.go tb_ok false [] 200 rfl AllP.n ?_
  refine VSt.cond rfl (fun h1=>absurd h1 (by decide)) (fun _=>?_)
  refine VSt.go tb_ok false [] 200 rfl AllP.n ?_
  refine VSt.viewC (Vw.freezeC 0 (eStem s) rfl rfl) ?_
  refine VSt.viewC (Vw.adopt 1 1 (fLI []) 3 rfl) ?_
  refine VSt.viewC (Vw.kp [1,4,6,20,21,22] [(1,1)] rfl) ?_
  refine VSt.rangeT tb_ok s.copies.length (by omega) [1,4,20] (fun k=>[(6,.acc true 1 1 (movF s k).length)]) (fun k=>[(1,growL (movF s k))]) (fun _=>True) rfl rfl rfl (fun _=>rfl) rfl rfl (u0_cons rfl AImp.nilAcc u0_nil) (LImp.refl _) trivial (fun k hk _=>?_) (fun _=>?_)
  ·have hml:=movF_len s k
   have hag:=rAgreed_ok (r:=r) (less_Ok s hs hck (idAt s k))
   have hno:movB s k=false→movF s (k+1)=movF s k:=fun e=>by rw [movF,e];rfl
   have hyes:movB s k=true→movF s (k+1)=movF s k++[idAt s k]:=fun e=>by rw [movF,e];rfl
   refine VSt.go tb_ok false [] 200 rfl (AllP.c ‹_› (AllP.c rfl AllP.n)) ?_
   refine VSt.pc rfl rfl rfl rfl rfl rfl rfl rfl ((Less_ok s hs (idAt s k) (by omega) (by omega))) ?_
   refine VSt.go tb_ok false [] 200 rfl AllP.n ?_
   by_cases hE:studE (lessM s (idAt s k))=0
   ·rw [hE,if_pos rfl] at hag
    refine VSt.pc rfl rfl rfl rfl rfl rfl rfl rfl (hag) ?_
    refine VSt.go tb_ok false [] 200 rfl AllP.n ?_
    refine VSt.splitO 36 rfl (fun g1=>?_) (fun g1=>?_)
    ·exact absurd g1 (by decide)
    refine VSt.go tb_ok false [] 200 rfl AllP.n ?_
    refine VSt.pc rfl rfl rfl rfl rfl rfl rfl rfl ((same2_ok htl)) ?_
    refine VSt.go tb_ok false [] 200 rfl AllP.n ?_
    refine VSt.cond rfl (fun g2=>?_) (fun g2=>?_)
    ·have g2:(!(textL s==textL (lessM s (idAt s k))))=true:=g2
     have hb:movB s k=true:=by unfold movB;rw [BEq.comm (a:=textL (lessM s (idAt s k))),g2,Bool.or_true]
     have e:=hyes hb
     have hN:(movF s k).length+1=(movF s (k+1)).length:=by rw [e];simp
     refine VSt.go tb_ok false [6] 200 rfl (AllP.c (by omega) (AllP.c (by omega) (AllP.c (fun q hq=>match q,hq with | 0,_=>rfl) (AllP.c rfl (AllP.c rfl (AllP.c rfl AllP.n)))))) ?_
     refine VSt.putO 46 (.acc true 3 1 (movF s (k+1)).length) rfl (AImp.acc hN (fun _=>rfl)) ?_
     refine VSt.go tb_ok false [] 200 rfl AllP.n ?_
     refine ⟨?_,trivial⟩
     refine Wk.vw (ps:=[(1,3)]) ⟨rfl,rfl,(by repeat (first | exact wf_nil | refine wf_back rfl rfl rfl ?_)),_,rfl,(⟨rfl,BImp.acc hN (fun q hq=>by rw [e];exact app_int (movF s k) (idAt s k) q hq),trivial⟩)⟩
    ·have g2:(!(textL s==textL (lessM s (idAt s k))))=false:=g2
     have hb:movB s k=false:=by unfold movB;rw [BEq.comm (a:=textL (lessM s (idAt s k))),g2,hE];rfl
     have e:=hno hb
     refine VSt.go tb_ok false [] 200 rfl AllP.n ?_
     refine ⟨?_,trivial⟩
     dsimp only
     rw [e]
     refine Wk.vw (ps:=[(1,1)]) ⟨rfl,rfl,(by repeat (first | exact wf_nil | refine wf_back rfl rfl rfl ?_)),_,rfl,((LImp.refl _))⟩
   ·have h45:studE (lessM s (idAt s k))=45:=by
     rw [less_studE hck] at hE ⊢
     split at hE
     ·rename_i h6;rw [if_pos h6]
     ·exact absurd rfl hE
    have hb:movB s k=true:=by unfold movB;rw [h45];rfl
    have e:=hyes hb
    have hN:(movF s k).length+1=(movF s (k+1)).length:=by rw [e];simp
    rw [if_neg hE,h45] at hag
    refine VSt.pc rfl rfl rfl rfl rfl rfl rfl rfl (hag) ?_
    refine VSt.go tb_ok false [] 200 rfl AllP.n ?_
    refine VSt.splitO 36 rfl (fun g1=>?_) (fun g1=>?_)
    ·refine VSt.go tb_ok false [6] 200 rfl (AllP.c (by omega) (AllP.c (by omega) (AllP.c (fun q hq=>match q,hq with | 0,_=>rfl) (AllP.c rfl (AllP.c rfl (AllP.c rfl AllP.n)))))) ?_
     refine VSt.putO 46 (.acc true 3 1 (movF s (k+1)).length) rfl (AImp.acc hN (fun _=>rfl)) ?_
     refine VSt.go tb_ok false [] 200 rfl AllP.n ?_
     refine ⟨?_,trivial⟩
     refine Wk.vw (ps:=[(1,3)]) ⟨rfl,rfl,(by repeat (first | exact wf_nil | refine wf_back rfl rfl rfl ?_)),_,rfl,(⟨rfl,BImp.acc hN (fun q hq=>by rw [e];exact app_int (movF s k) (idAt s k) q hq),trivial⟩)⟩
    ·exact absurd g1 (by decide)
  ·refine VSt.go tb_ok false [48] 200 rfl AllP.n ?_
   refine VSt.viewO (Vw.kp [6] [(1,1)] rfl) ?_
   refine VSt.viewO (Vw.freezeA 1 rfl rfl ⟨Nat.le_refl _,rfl⟩) ?_
   refine VSt.go tb_ok false [] 200 rfl AllP.n ?_
   exact ⟨rfl,_,rfl,rfl,AImp.tup ⟨AImp.of_eq (mov_end _),AImp.refl _,trivial⟩⟩
 ·rw [if_neg h] at hro
  rw [show movV s=nilI from if_neg h]
  refine VSt.pc rfl rfl rfl rfl rfl rfl rfl rfl (hro) ?_
  refine VSt.go tb_ok false [] 200 rfl AllP.n ?_
  refine VSt.cond rfl (fun h1=>?_) (fun h1=>?_)
  ·refine VSt.go tb_ok false [] 200 rfl AllP.n ?_
   exact ⟨rfl,_,rfl,rfl,AImp.tup ⟨AImp.nil,AImp.refl _,trivial⟩⟩
  ·have h1:(!(studE s==0))=false:=h1
   exact absurd (by simpa using h1) h
set_option maxHeartbeats 4000000 in
theorem pMoved_ok {s:Stem} (hs:s.Ok) (hf:s.Flags):VP (sE r) 29 [.agg ((eStem s).map .p)] (.tup [.p (movV s),iv (studE s)]):=by
 have hro:=studied_ok (r:=r) hs
 refine VP.of (fn:=Tryz.f29) tb_ok rfl (by kernel_rfl) rfl rfl (movV_only s) ?_
 refine VSt.go tb_ok false [] 200 rfl AllP.n ?_
 by_cases h:studE s=0
 ·obtain ⟨hck,hm⟩:=studE_zero h
  have hv:=valid_of hck
  have hn:s.copies.length≤7:=hv.c
  rw [h,if_pos rfl] at hro
  rw [show movV s=_ from if_pos h,h]
  refine VSt.pc rfl rfl rfl rfl rfl rfl rfl rfl (hro) ?_
  refine VSt.go tb_ok false [] 200 rfl AllP.n ?_
  refine VSt.cond rfl (fun h1=>absurd h1 (by decide)) (fun _=>?_)
  refine VSt.go tb_ok false [] 200 rfl AllP.n ?_
  refine VSt.pc rfl rfl rfl rfl rfl rfl rfl rfl ((text_ok hv hm (least_some hv hm))) ?_
  refine VSt.go tb_ok false [] 200 rfl AllP.n ?_
  refine VSt.viewC (Vw.freezeC 0 (eStem s) rfl rfl) ?_
  refine VSt.viewC (Vw.adopt 1 1 (fLI []) 3 rfl) ?_
  refine VSt.viewC (Vw.kp [1,6,7,23,24,25] [(1,1)] rfl) ?_
  refine VSt.rangeT tb_ok s.copies.length (by omega) [1,6,23] (fun k=>[(7,.acc true 1 1 (movF s k).length)]) (fun k=>[(1,growL (movF s k))]) (fun _=>True) rfl rfl rfl (fun _=>rfl) rfl rfl (u0_cons rfl AImp.nilAcc u0_nil) (LImp.refl _) trivial (fun k hk _=>?_) (fun _=>?_)
  ·have hml:=movF_len s k
   have hck':ckStem (lessP s (idAt s k))=0:=less_ck hck (idAt s k)
   have hv':=valid_of hck'
   have hag:=agreed_ok (r:=r) (lessP_Ok s hs hck (idAt s k)) hv'
   have hst:=less_studE hck (idAt s k)
   have hlN:leastN (lessM s (idAt s k))=leastN (lessP s (idAt s k)):=least_less s (idAt s k)
   rw [hlN] at hst
   have hno:movB s k=false→movF s (k+1)=movF s k:=fun e=>by rw [movF,e];rfl
   have hyes:movB s k=true→movF s (k+1)=movF s k++[idAt s k]:=fun e=>by rw [movF,e];rfl
   have htl:(textL (lessP s (idAt s k))).length<9223372036854775808:=by
    rw [textL_len]
    unfold placesN
    split
    ·omega
    ·have:=(ckCopy_of (hv'.copy (k:=0) (by omega))).2.1.2;omega
   refine VSt.go tb_ok false [] 200 rfl (AllP.c ‹_› (AllP.c rfl AllP.n)) ?_
   refine VSt.pc rfl rfl rfl rfl rfl rfl rfl rfl ((without_ok hf hv (idAt s k) (hasId_at hk))) ?_
   refine VSt.go tb_ok false [] 200 rfl AllP.n ?_
   rcases Nat.eq_zero_or_pos (leastN (lessP s (idAt s k))) with hm' | hm'
   ·have h45:studE (lessM s (idAt s k))=45:=by rw [hst];exact if_pos hm'
    have hb:movB s k=true:=by unfold movB;rw [h45];rfl
    have e:=hyes hb
    have hN:(movF s k).length+1=(movF s (k+1)).length:=by rw [e];simp
    rw [agreed_none hm'] at hag
    refine VSt.pc rfl rfl rfl rfl rfl rfl rfl rfl (hag) ?_
    refine VSt.go tb_ok false [] 200 rfl AllP.n ?_
    refine VSt.splitO 39 rfl (fun g1=>?_) (fun g1=>?_)
    ·refine VSt.go tb_ok false [7] 200 rfl (AllP.c (by omega) (AllP.c (by omega) (AllP.c (fun q hq=>match q,hq with | 0,_=>rfl) (AllP.c rfl (AllP.c rfl (AllP.c rfl AllP.n)))))) ?_
     refine VSt.putO 50 (.acc true 3 1 (movF s (k+1)).length) rfl (AImp.acc hN (fun _=>rfl)) ?_
     refine VSt.go tb_ok false [] 200 rfl AllP.n ?_
     refine ⟨?_,trivial⟩
     refine Wk.vw (ps:=[(1,3)]) ⟨rfl,rfl,(by repeat (first | exact wf_nil | refine wf_back rfl rfl rfl ?_)),_,rfl,(⟨rfl,BImp.acc hN (fun q hq=>by rw [e];exact app_int (movF s k) (idAt s k) q hq),trivial⟩)⟩
    ·exact absurd g1 (by decide)
   ·have hE:studE (lessM s (idAt s k))=0:=by rw [hst];exact if_neg (Nat.pos_iff_ne_zero.1 hm')
    rw [agreed_some hm'] at hag
    refine VSt.pc rfl rfl rfl rfl rfl rfl rfl rfl (hag) ?_
    refine VSt.go tb_ok false [] 200 rfl AllP.n ?_
    refine VSt.splitO 39 rfl (fun g1=>?_) (fun g1=>?_)
    ·exact absurd g1 (by decide)
    refine VSt.go tb_ok false [] 200 rfl AllP.n ?_
    refine VSt.pc rfl rfl rfl rfl rfl rfl rfl rfl ((text_ok hv' hm' (least_some hv' hm'))) ?_
    refine VSt.go tb_ok false [] 200 rfl AllP.n ?_
    refine VSt.pc rfl rfl rfl rfl rfl rfl rfl rfl ((equal_ok htl)) ?_
    refine VSt.go tb_ok false [] 200 rfl AllP.n ?_
    refine VSt.cond rfl (fun g2=>?_) (fun g2=>?_)
    ·have g2:(!(textL (lessP s (idAt s k))==textL s))=true:=g2
     rw [text_less] at g2
     have hb:movB s k=true:=by unfold movB;rw [g2,Bool.or_true]
     have e:=hyes hb
     have hN:(movF s k).length+1=(movF s (k+1)).length:=by rw [e];simp
     refine VSt.go tb_ok false [7] 200 rfl (AllP.c (by omega) (AllP.c (by omega) (AllP.c (fun q hq=>match q,hq with | 0,_=>rfl) (AllP.c rfl (AllP.c rfl (AllP.c rfl AllP.n)))))) ?_
     refine VSt.putO 50 (.acc true 3 1 (movF s (k+1)).length) rfl (AImp.acc hN (fun _=>rfl)) ?_
     refine VSt.go tb_ok false [] 200 rfl AllP.n ?_
     refine ⟨?_,trivial⟩
     refine Wk.vw (ps:=[(1,3)]) ⟨rfl,rfl,(by repeat (first | exact wf_nil | refine wf_back rfl rfl rfl ?_)),_,rfl,(⟨rfl,BImp.acc hN (fun q hq=>by rw [e];exact app_int (movF s k) (idAt s k) q hq),trivial⟩)⟩
    ·have g2:(!(textL (lessP s (idAt s k))==textL s))=false:=g2
     rw [text_less] at g2
     have hb:movB s k=false:=by unfold movB;rw [g2,hE];rfl
     have e:=hno hb
     refine VSt.go tb_ok false [] 200 rfl AllP.n ?_
     refine ⟨?_,trivial⟩
     dsimp only
     rw [e]
     refine Wk.vw (ps:=[(1,1)]) ⟨rfl,rfl,(by repeat (first | exact wf_nil | refine wf_back rfl rfl rfl ?_)),_,rfl,((LImp.refl _))⟩
  ·refine VSt.go tb_ok false [52] 200 rfl AllP.n ?_
   refine VSt.viewO (Vw.kp [7] [(1,1)] rfl) ?_
   refine VSt.viewO (Vw.freezeA 1 rfl rfl ⟨Nat.le_refl _,rfl⟩) ?_
   refine VSt.go tb_ok false [] 200 rfl AllP.n ?_
   exact ⟨rfl,_,rfl,rfl,AImp.tup ⟨AImp.of_eq (mov_end _),AImp.refl _,trivial⟩⟩
 ·rw [if_neg h] at hro
  rw [show movV s=nilI from if_neg h]
  refine VSt.pc rfl rfl rfl rfl rfl rfl rfl rfl (hro) ?_
  refine VSt.go tb_ok false [] 200 rfl AllP.n ?_
  refine VSt.cond rfl (fun h1=>?_) (fun h1=>?_)
  ·refine VSt.go tb_ok false [] 200 rfl AllP.n ?_
   exact ⟨rfl,_,rfl,rfl,AImp.tup ⟨AImp.nil,AImp.refl _,trivial⟩⟩
  ·have h1:(!(studE s==0))=false:=h1
   exact absurd (by simpa using h1) h
end Go.Proofs.YtncpeobcgmkkbaaGreat
