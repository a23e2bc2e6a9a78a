/- The program's StemAgrees returns true for every stem, one and number, valid or not, without an exception and without changing its arguments: a part of the proof. -/
import Derived.Test.YtncpeobcgmkkbaaGreatVn
import Derived.Test.YtncpeobcgmkkbaaGreatVe
set_option linter.all false
/- Walks: a stem that is looked at. -/
set_option maxRecDepth 100000
namespace Go.Proofs.YtncpeobcgmkkbaaGreat
variable {r:Tr (List Value×TypeId)}
def idAt (s:Stem) (i:Nat):Int:=(s.copies.getD i default).id
def cellM (s:Stem) (i k:Nat):Int:=if i=k then -1 else if isNever s (idAt s i) (idAt s k)=true then -1 else costI s i k
def rowP (s:Stem) (i:Nat):PV:=.lst 3 false s.copies.length fun k=>[.int .i64 (cellM s i k)]
def fRows (s:Stem):Nat→List PV:=fun i=>[rowP s i]
def rowsP (s:Stem):PV:=.lst 28 (Nat.beq s.copies.length 0) s.copies.length (fRows s)
def studyC (s:Stem) (a b:AV) (c:Int):VB:=.cells ((eStem s).map .p++[a,b,iv c]) 76
theorem app_one {f:Nat→List PV} {x:PV} {k q:Nat} (h:[x]=f k) (hq:q<k+1):(bif Nat.blt q k then f q else ([x].drop ((q - k)*1)).take 1)=f q:=by
 by_cases e:q<k
 ·rw [blt_t e];rfl
 ·have:q=k:=by omega
  subst this
  rw [blt_f e,Nat.sub_self,←h];rfl
theorem newStudy_ok {s:Stem} (hs:s.Ok) (hv:s.Valid):VC (sE r) [] 101 [.agg ((eStem s).map .p)] [] (fun a L=>a = .ref 0 0∧L=[(0,studyC s (.p (rowsP s)) (.p (.lst 0 true 0 fun _=>[])) 0)]):=by
 have hn:s.copies.length≤7:=hv.c
 refine VC.of (fn:=Tryz.f101) tb_ok rfl (by kernel_rfl) rfl rfl ?_
 refine VSt.run tb_ok false [] 200 rfl trivial ?_
 refine VSt.viewC (Wk.vw (ps:=[(0,0),(1,1)]) (F0:=[(1,.ref 0 0),(3,.ref 1 0),(14,.p (eCopies s.cn s.copies)),(15,nv s.copies.length),(16,nv 0)]) (L0:=[(0,.cells ((eStem s).map .p) 27),(1,studyC s (.p (.lst 0 true 0 fun _=>[])) (.p (.lst 0 true 0 fun _=>[])) 0)])
  ⟨rfl,rfl,(by repeat (first | exact wf_nil | refine wf_back rfl rfl rfl ?_)),_,rfl,LImp.refl _⟩) ?_
 refine VSt.viewC (Vw.freezeC 0 (eStem s) rfl rfl) ?_
 refine VSt.viewC (Vw.adopt 2 1 (fRows s) 28 rfl) ?_
 refine VSt.rangeF tb_ok s.copies.length (by omega) (fun k=>[(1,.p (.fp (eStem s) 0)),(3,.ref 1 0),(14,.p (eCopies s.cn s.copies))])
  (fun k=>[(2,.acc k 1 (fRows s) 28),(1,studyC s (.acc true 2 1 k) (.p (.lst 0 true 0 fun _=>[])) 0)])
  (fun _=>True) rfl rfl (fun _=>rfl) ?_ trivial (fun i hi hp=>?_) (fun hp=>?_)
 ·exact Wk.vw (ps:=[(2,2),(1,1)]) ⟨rfl,rfl,(by repeat (first | exact wf_nil | refine wf_back rfl rfl rfl ?_)),_,rfl,⟨rfl,BImp.refl _,rfl,BImp.cells ⟨AImp.refl _,AImp.refl _,AImp.refl _,AImp.refl _,AImp.refl _,AImp.refl _,AImp.nilAcc,AImp.refl _,AImp.refl _,trivial⟩,trivial⟩⟩
 ·refine VSt.run tb_ok false [] 200 rfl (⟨hi,rfl⟩) ?_
  refine VSt.viewC (Wk.vw (ps:=[(1,1),(2,2),(3,3)]) (F0:=[(1,.p (.fp (eStem s) 0)),(3,.ref 1 0),(4,nv i),(5,.ref 3 0),(6,.p (.lst 0 true 0 fun _=>[])),(14,.p (eCopies s.cn s.copies)),(15,nv s.copies.length),(16,nv i),(22,.p (eCopies s.cn s.copies)),(23,nv s.copies.length),(24,nv 0)])
   (L0:=[(1,studyC s (.acc true 2 1 i) (.p (.lst 0 true 0 fun _=>[])) 0),(2,.acc i 1 (fRows s) 28),(3,.cells ((eCopy (s.copies.getD i default)).map .p) 44)])
   ⟨rfl,rfl,(by repeat (first | exact wf_nil | refine wf_back rfl rfl rfl ?_)),_,rfl,LImp.refl _⟩) ?_
  refine VSt.viewC (Vw.freezeC 3 (eCopy (s.copies.getD i default)) rfl rfl) ?_
  refine VSt.viewC (Vw.adopt 3 1 (fun k=>[.int .i64 (cellM s i k)]) 3 rfl) ?_
  refine VSt.rangeF tb_ok s.copies.length (by omega) (fun k=>[(1,.p (.fp (eStem s) 0)),(3,.ref 1 0),(4,nv i),(5,.p (.fp (eCopy (s.copies.getD i default)) 0)),(6,.acc true 3 1 k),(14,.p (eCopies s.cn s.copies)),(15,nv s.copies.length),(16,nv i),(22,.p (eCopies s.cn s.copies))])
   (fun k=>[(3,.acc k 1 (fun k=>[.int .i64 (cellM s i k)]) 3),(1,studyC s (.acc true 2 1 i) (.p (.lst 0 true 0 fun _=>[])) 0),(2,.acc i 1 (fRows s) 28)])
   (fun _=>True) rfl rfl (fun _=>rfl) ?_ trivial (fun k hk hp=>?_) (fun hp=>?_)
  ·exact Wk.vw (ps:=[(3,3),(1,1),(2,2)]) ⟨rfl,rfl,wf_back rfl rfl rfl (wf_back rfl rfl rfl (wf_back rfl rfl rfl (wf_back rfl rfl rfl (wf_back rfl rfl rfl (wf_back rfl rfl rfl (wf_imp rfl rfl AImp.nilAcc (by repeat (first | exact wf_nil | refine wf_back rfl rfl rfl ?_)))))))),_,rfl,LImp.refl _⟩
  ·have app:∀ x:Int,x=cellM s i k→∀ q,q<k+1→(bif Nat.blt q k then (fun k=>[PV.int .i64 (cellM s i k)]) q else ([PV.int .i64 x].drop ((q - k)*1)).take 1)=(fun k=>[PV.int .i64 (cellM s i k)]) q:=fun x hx q hq=>app_one (f:=fun k=>[PV.int .i64 (cellM s i k)]) (by rw [hx]) hq
   refine VSt.run tb_ok false [] 200 rfl (⟨hk,rfl⟩) ?_
   first | refine VSt.splitO 32 rfl (fun h1=>?_) (fun h1=>?_) | refine VSt.splitD 32 rfl (fun h1=>?_) (fun h1=>?_)
   ·have h1:¬ i=k:=fun e=>by
     subst e
     exact absurd (show (!(Int.ofNat i==Int.ofNat i))=true from h1) (by rw [beq_self_eq_true];decide)
    refine VSt.run tb_ok false [] 200 rfl trivial ?_
    first | refine VSt.pc rfl rfl rfl rfl rfl rfl rfl rfl ((contN_ok s (idAt s i) (idAt s k) hs.n)) ?_ | refine VSt.pcD rfl rfl rfl rfl rfl rfl rfl rfl ((contN_ok s (idAt s i) (idAt s k) hs.n)) ?_
    refine VSt.run tb_ok false [] 200 rfl trivial ?_
    refine VSt.cond rfl (fun h2=>?_) (fun h2=>?_)
    ·refine VSt.run tb_ok false [] 200 rfl trivial ?_
     first | refine VSt.pc rfl rfl rfl rfl rfl rfl rfl rfl ((cost_ok hv hi hk)) ?_ | refine VSt.pcD rfl rfl rfl rfl rfl rfl rfl rfl ((cost_ok hv hi hk)) ?_
     refine VSt.run tb_ok false [] 200 rfl (⟨by decide,by omega,(fun q hq=>by match q,hq with | 0,_=>rfl),rfl,rfl,rfl⟩) ?_
     have hx:costI s i k=cellM s i k:=by
      have h2:(!isNever s (idAt s i) (idAt s k))=true:=h2
      unfold cellM
      rw [if_neg h1,if_neg (by intro e;rw [e] at h2;cases h2)]
     exact ⟨Wk.vw (ps:=[(3,5),(1,1),(2,2)]) ⟨rfl,rfl,(by repeat (first | exact wf_nil | refine wf_back rfl rfl rfl ?_)),_,rfl,⟨rfl,BImp.acc rfl (app _ hx),rfl,BImp.refl _,rfl,BImp.refl _,trivial⟩⟩,trivial⟩
    ·refine VSt.run tb_ok false [] 200 rfl (⟨by decide,by omega,(fun q hq=>by match q,hq with | 0,_=>rfl),rfl,rfl,rfl⟩) ?_
     have hx : -1=cellM s i k:=by
      have h2:(!isNever s (idAt s i) (idAt s k))=false:=h2
      unfold cellM
      rw [if_neg h1,if_pos (by simpa using h2)]
     exact ⟨Wk.vw (ps:=[(3,5),(1,1),(2,2)]) ⟨rfl,rfl,(by repeat (first | exact wf_nil | refine wf_back rfl rfl rfl ?_)),_,rfl,⟨rfl,BImp.acc rfl (app _ hx),rfl,BImp.refl _,rfl,BImp.refl _,trivial⟩⟩,trivial⟩
   ·have h1:i=k:=by
     have h2:(!(Int.ofNat i==Int.ofNat k))=false:=h1
     have h3:Int.ofNat i=Int.ofNat k:=by simpa using h2
     exact Int.ofNat_inj.1 h3
    refine VSt.run tb_ok false [] 200 rfl (⟨by decide,by omega,(fun q hq=>by match q,hq with | 0,_=>rfl),rfl,rfl,rfl⟩) ?_
    have hx : -1=cellM s i k:=by
     unfold cellM
     rw [if_pos h1]
    exact ⟨Wk.vw (ps:=[(3,5),(1,1),(2,2)]) ⟨rfl,rfl,(by repeat (first | exact wf_nil | refine wf_back rfl rfl rfl ?_)),_,rfl,⟨rfl,BImp.acc rfl (app _ hx),rfl,BImp.refl _,rfl,BImp.refl _,trivial⟩⟩,trivial⟩
  ·refine VSt.viewC (Vw.freezeA 3 rfl rfl ⟨Nat.le_refl _,rfl⟩) ?_
   refine VSt.run tb_ok false [] 200 rfl (⟨by decide,by omega,(fun q hq=>by match q,hq with | 0,_=>rfl),rfl,rfl,rfl⟩) ?_
   have hb:Nat.beq s.copies.length 0=false:=beq_ne (by omega)
   exact ⟨Wk.vw (ps:=[(2,3),(1,1)]) ⟨rfl,rfl,(by repeat (first | exact wf_nil | refine wf_back rfl rfl rfl ?_)),_,rfl,⟨rfl,BImp.acc rfl (fun q hq=>app_one (f:=fRows s) (by show [PV.lst _ (true&&Nat.beq s.copies.length 0) _ _]=[PV.lst _ false _ _];rw [hb];rfl) hq),rfl,BImp.refl _,trivial⟩⟩,trivial⟩
 ·refine VSt.viewC (Vw.freezeA 2 rfl rfl ⟨Nat.le_refl _,rfl⟩) ?_
  refine VSt.run tb_ok false [] 200 rfl trivial ?_
  exact ⟨rfl,_,[(0,1)],_,_,rfl,⟨rfl,rfl,wf_imp rfl rfl (AImp.refl _) wf_nil,_,rfl,LImp.refl _⟩,rfl,rfl⟩
end Go.Proofs.YtncpeobcgmkkbaaGreat
/- Walks: what the copies from one on cost at least. -/
set_option maxRecDepth 100000
namespace Go.Proofs.YtncpeobcgmkkbaaGreat
variable {r:Tr (List Value×TypeId)}
theorem costI_bd {s:Stem} (hv:s.Valid) {i k:Nat} (hi:i<s.copies.length):0≤costI s i k∧costI s i k≤1600:=by
 have hl:=(ckCopy_of (hv.copy hi)).2.1
 have:=sumTo_bd (f:=fun q=>slipI s.costs (wd s i q) (wd s k q)) (m:=100) (n:=(s.copies.getD i default).words.length) fun q _=>slipI_bd hv.costs _ _
 unfold costI
 refine ⟨this.1,Int.le_trans this.2 ?_⟩
 omega
theorem cellM_bd {s:Stem} (hv:s.Valid) {i k:Nat} (hi:i<s.copies.length) : -1≤cellM s i k∧cellM s i k≤1600:=by
 have:=costI_bd hv (k:=k) hi
 unfold cellM
 split
 ·omega
 ·split <;> omega
def leastTo (s:Stem) (c:Nat):Nat→Int
 | 0=> -1
 | k+1=>bif (!(cellM s k c == -1))&&((leastTo s c k == -1)||decide (cellM s k c<leastTo s c k)) then cellM s k c else leastTo s c k
theorem leastTo_bd {s:Stem} (hv:s.Valid) (c:Nat):∀ k,k≤s.copies.length→-1≤leastTo s c k∧leastTo s c k≤1600
 | 0,_=>by unfold leastTo;omega
 | k+1,h=>by
  have h1:=leastTo_bd hv c k (by omega)
  have h2:=cellM_bd hv (i:=k) (k:=c) (by omega)
  unfold leastTo
  cases ((!(cellM s k c == -1))&&((leastTo s c k == -1)||decide (cellM s k c<leastTo s c k))) with
  | true=>exact h2
  | false=>exact h1
def floorT (s:Stem) (i:Nat):Nat→Int×Int
 | 0=>(0,0)
 | d+1=>((floorT s i d).1+max (leastTo s (i+d) s.copies.length) 0,max (floorT s i d).2 (leastTo s (i+d) s.copies.length))
theorem floorT_bd {s:Stem} (hv:s.Valid) (i:Nat):∀ d,0≤(floorT s i d).1∧(floorT s i d).1≤1600*d∧0≤(floorT s i d).2∧(floorT s i d).2≤1600
 | 0=>by simp [floorT]
 | d+1=>by
  have h1:=floorT_bd hv i d
  have h2:=leastTo_bd hv (i+d) _ (Nat.le_refl _)
  simp only [floorT]
  omega
def floorI (s:Stem) (i:Nat):Int:=(floorT s i (s.copies.length - i)).1 - (floorT s i (s.copies.length - i)).2
theorem floorI_bd {s:Stem} (hv:s.Valid) (i:Nat) : -1600≤floorI s i∧floorI s i≤11200:=by
 have h1:=floorT_bd hv i (s.copies.length - i)
 have:=hv.c
 unfold floorI
 omega
def flK (s:Stem) (k:Nat):Int→Option Int:=fun q=>bif decide (0≤q)&&decide (q<Int.ofNat k) then some (floorI s q.toNat) else none
theorem flK_succ (s:Stem) (k:Nat) (q:Int):(bif q==Int.ofNat k then some (floorI s k) else flK s k q)=flK s (k+1) q:=by
 unfold flK
 by_cases h:q=Int.ofNat k
 ·subst h
  have h1:decide (0≤Int.ofNat k)=true:=decide_eq_true (Int.natCast_nonneg k)
  have h2:decide (Int.ofNat k<Int.ofNat (k+1))=true:=decide_eq_true (by simp only [Int.ofNat_eq_natCast];omega)
  rw [beq_self_eq_true,h1,h2];rfl
 ·have e:(q==Int.ofNat k)=false:=by simpa using h
  rw [e]
  show (bif decide (0≤q)&&decide (q<Int.ofNat k) then _ else _)=_
  have:(decide (0≤q)&&decide (q<Int.ofNat k))=(decide (0≤q)&&decide (q<Int.ofNat (k+1))):=by
   congr 1
   rw [decide_eq_decide]
   simp only [Int.ofNat_eq_natCast] at h ⊢
   omega
  rw [this]
theorem flK_get (s:Stem) {k i:Nat} (h:i<k):flK s k (Int.ofNat i)=some (floorI s i):=by
 unfold flK
 rw [decide_eq_true (show 0≤Int.ofNat i from Int.natCast_nonneg i),decide_eq_true (show Int.ofNat i<Int.ofNat k by simp only [Int.ofNat_eq_natCast];omega)];rfl
theorem BImp.mapI {f g:Int→Option Int} (h:∀ q,f q=g q):BImp (.mapI f) (.mapI g):=by
 rw [show f=g from funext h];exact BImp.refl _
def studyP (s:Stem) (y z:PV):List PV:=eStem s++[rowsP s,y,z]
theorem floors_ok {s:Stem} {y z:PV} (hv:s.Valid):VC (sE r) [] 126 [.p (.fp (studyP s y z) 0)] [] (fun a L=>a = .map 0∧L=[(0,.mapI (flK s (s.copies.length+1)))]):=by
 have hn:s.copies.length≤7:=hv.c
 refine VC.of (fn:=Tryz.f126) tb_ok rfl (by kernel_rfl) rfl rfl ?_
 refine VSt.run tb_ok false [] 200 rfl ((by show inR _;unfold inR;simp only [Int.ofNat_eq_natCast];omega)) ?_
 refine VSt.viewC (Wk.vw (ps:=[(0,0)]) (F0:=[(0,.p (.fp (studyP s y z) 0)),(3,.map 0),(18,nv (s.copies.length+1)),(19,nv 0)]) (L0:=[(0,.mapI (flK s 0))])
  ⟨rfl,rfl,wf_back rfl rfl rfl (wf_back rfl rfl rfl (wf_imp rfl rfl (iv_nv (by simp only [Int.ofNat_eq_natCast];omega)) (wf_back rfl rfl rfl wf_nil))),_,rfl,⟨rfl,BImp.mapI fun q=>?_,trivial⟩⟩) ?_
 ·unfold flK
  show none=_
  by_cases h:0≤q
  ·rw [decide_eq_false (show ¬ q<Int.ofNat 0 by simp only [Int.ofNat_eq_natCast];omega),Bool.and_false];rfl
  ·rw [decide_eq_false h];rfl
 refine VSt.rangeF tb_ok (s.copies.length+1) (by omega) (fun _=>[(0,.p (.fp (studyP s y z) 0)),(3,.map 0)]) (fun k=>[(0,.mapI (flK s k))]) (fun _=>True) rfl rfl (fun _=>rfl) ?_ trivial (fun i hi hp=>?_) (fun hp=>?_)
 ·(refine Vw.sub' (subK (by repeat (first | exact sk_nil | refine sk_cons rfl ?_))))
 ·refine VSt.run tb_ok false [] 200 rfl trivial ?_
  refine VSt.loop (α :=Nat) (fun d F L=>d≤s.copies.length - i∧F=[(0,.p (.fp (studyP s y z) 0)),(3,.map 0),(4,nv i),(5,iv (floorT s i d).1),(6,iv (floorT s i d).2),(7,nv (i+d)),(18,nv (s.copies.length+1)),(19,nv i)]∧L=[(0,.mapI (flK s i))]) (fun d=>s.copies.length - i - d) 0 (by (refine Vw.sub' (subK (by repeat (first | exact sk_nil | refine sk_cons rfl ?_))))) ⟨Nat.zero_le _,rfl,rfl⟩ ?_
  rintro d F L ⟨hd,rfl,rfl⟩
  have hbd:=floorT_bd hv i d
  refine VSt.run tb_ok false [] 200 rfl trivial ?_
  refine VSt.cond rfl (fun h1=>?_) (fun h1=>?_)
  ·have h1:i+d<s.copies.length:=by have:=of_decide_eq_true h1;simp only [Int.ofNat_eq_natCast] at this;omega
   refine VSt.run tb_ok false [] 200 rfl trivial ?_
   refine VSt.rangeF tb_ok s.copies.length (by omega) (fun k=>[(0,.p (.fp (studyP s y z) 0)),(3,.map 0),(4,nv i),(5,iv (floorT s i d).1),(6,iv (floorT s i d).2),(7,nv (i+d)),(8,iv (leastTo s (i+d) k)),(18,nv (s.copies.length+1)),(19,nv i)]) (fun k=>[(0,.mapI (flK s i))]) (fun _=>True) rfl rfl (fun _=>rfl) ?_ trivial (fun k hk hp=>?_) (fun hp=>?_)
   ·(refine Vw.sub' (subK (by repeat (first | exact sk_nil | refine sk_cons rfl ?_))))
   ·refine VSt.run tb_ok false [] 200 rfl (⟨hk,rfl,h1,rfl⟩) ?_
    first | refine VSt.splitO 54 rfl (fun g1=>?_) (fun g1=>?_) | refine VSt.splitD 54 rfl (fun g1=>?_) (fun g1=>?_)
    ·have g1:(!(cellM s k (i+d) == -1))=true:=g1
     refine VSt.run tb_ok false [] 200 rfl trivial ?_
     first | refine VSt.splitO 57 rfl (fun g2=>?_) (fun g2=>?_) | refine VSt.splitD 57 rfl (fun g2=>?_) (fun g2=>?_)
     ·have g2:(leastTo s (i+d) k == -1)=true:=g2
      have e:leastTo s (i+d) (k+1)=cellM s k (i+d):=by unfold leastTo;rw [g1,g2];rfl
      refine VSt.run tb_ok false [] 200 rfl trivial ?_
      refine ⟨?_,trivial⟩
      dsimp only
      rw [e]
      (refine Vw.sub' (subK (by repeat (first | exact sk_nil | refine sk_cons rfl ?_))))
     ·have g2:(leastTo s (i+d) k == -1)=false:=g2
      refine VSt.run tb_ok false [] 200 rfl trivial ?_
      refine VSt.cond rfl (fun g3=>?_) (fun g3=>?_)
      ·have g3:decide (cellM s k (i+d)<leastTo s (i+d) k)=true:=g3
       have e:leastTo s (i+d) (k+1)=cellM s k (i+d):=by unfold leastTo;rw [g1,g2,g3];rfl
       refine VSt.run tb_ok false [] 200 rfl trivial ?_
       refine ⟨?_,trivial⟩
       dsimp only
       rw [e]
       (refine Vw.sub' (subK (by repeat (first | exact sk_nil | refine sk_cons rfl ?_))))
      ·have g3:decide (cellM s k (i+d)<leastTo s (i+d) k)=false:=g3
       have e:leastTo s (i+d) (k+1)=leastTo s (i+d) k:=by rw [leastTo,g1,g2,g3];rfl
       refine VSt.run tb_ok false [] 200 rfl trivial ?_
       refine ⟨?_,trivial⟩
       dsimp only
       rw [e]
       (refine Vw.sub' (subK (by repeat (first | exact sk_nil | refine sk_cons rfl ?_))))
    ·have g1:(!(cellM s k (i+d) == -1))=false:=g1
     have e:leastTo s (i+d) (k+1)=leastTo s (i+d) k:=by rw [leastTo,g1];rfl
     refine VSt.run tb_ok false [] 200 rfl trivial ?_
     refine ⟨?_,trivial⟩
     dsimp only
     rw [e]
     (refine Vw.sub' (subK (by repeat (first | exact sk_nil | refine sk_cons rfl ?_))))
   ·have hl:=leastTo_bd hv (i+d) _ (Nat.le_refl _)
    refine VSt.run tb_ok false [] 200 rfl (⟨(by show inR _;unfold inR;omega),(by show inR _;unfold inR;simp only [Int.ofNat_eq_natCast];omega)⟩) ?_
    exact ⟨d+1,_,_,(by (refine Vw.sub' (subK (by repeat (first | exact sk_nil | refine sk_cons rfl ?_))))),⟨by omega,rfl,rfl⟩,by omega⟩
  ·have h1:d=s.copies.length - i:=by have:=of_decide_eq_false h1;simp only [Int.ofNat_eq_natCast] at this;omega
   refine VSt.run tb_ok false [] 200 rfl ((by show inR _;unfold inR;omega)) ?_
   refine ⟨Wk.vw (ps:=[(0,0)]) ⟨rfl,rfl,(by repeat (first | exact wf_nil | refine wf_back rfl rfl rfl ?_)),_,rfl,⟨rfl,BImp.mapI fun q=>?_,trivial⟩⟩,trivial⟩
   rw [←flK_succ,h1];rfl
 ·refine VSt.run tb_ok false [] 200 rfl trivial ?_
  exact ⟨rfl,_,[(0,0)],_,_,rfl,⟨rfl,rfl,wf_imp rfl rfl (AImp.refl _) wf_nil,_,rfl,LImp.refl _⟩,rfl,rfl⟩
end Go.Proofs.YtncpeobcgmkkbaaGreat
/- Walks: does one come back to a copy; the Ids of parents. -/
set_option maxRecDepth 100000
namespace Go.Proofs.YtncpeobcgmkkbaaGreat
variable {r:Tr (List Value×TypeId)}
def upF (p:Nat→Int) (i:Nat):Nat→Nat→Option Nat
 | 0,_=>none
 | m+1,f=>if f<i∧0≤p f then upF p i m (p f).toNat else some f
theorem upF_eq (p:Nat→Int) (i m f:Nat):upF p i (m+1) f=if f<i∧0≤p f then upF p i m (p f).toNat else some f:=rfl
def ints (b:Bool) (n:Nat) (p:Nat→Int):PV:=.lst 3 b n fun k=>[.int .i64 (p (0+k))]
theorem closes_ok {nb:Bool} {p:Nat→Int} {i n m f0 r':Nat} (h:upF p i m f0=some r') (hi:i≤n):VP (sE r) 129 [.p (ints nb n p),nv i,nv f0] (bv (Int.ofNat r'==Int.ofNat i)):=by
 refine VP.of (fn:=Tryz.f129) tb_ok rfl (by kernel_rfl) rfl rfl rfl ?_
 refine VSt.run tb_ok false [] 200 rfl trivial ?_
 refine VSt.loop (α :=Nat×Nat) (fun x F L=>upF p i x.1 x.2=some r'∧F=[(0,.p (ints nb n p)),(1,nv i),(2,nv x.2)]∧L=[]) (fun x=>x.1) (m,f0) (by (refine Vw.sub' (subK (by repeat (first | exact sk_nil | refine sk_cons rfl ?_))))) ⟨h,rfl,rfl⟩ ?_
 rintro ⟨m,f⟩ F L ⟨hu,rfl,rfl⟩
 have hu:upF p i m f=some r':=hu
 have key:∃ m',m=m'+1:=by
  cases m with
  | zero=>cases hu
  | succ m'=>exact ⟨m',rfl⟩
 refine Exists.elim key fun m' hm=>?_
 subst hm
 rw [upF_eq] at hu
 refine VSt.run tb_ok false [] 200 rfl trivial ?_
 first | refine VSt.splitO 10 rfl (fun h1=>?_) (fun h1=>?_) | refine VSt.splitD 10 rfl (fun h1=>?_) (fun h1=>?_)
 ·have h1:f<i:=by have:=of_decide_eq_true h1;simp only [Int.ofNat_eq_natCast] at this;omega
  refine VSt.run tb_ok false [] 200 rfl (⟨(show f<n by omega),rfl⟩) ?_
  refine VSt.cond rfl (fun h2=>?_) (fun h2=>?_)
  ·have h2:0≤p f:=by have h3:decide (0≤p (0+f))=true:=h2;rw [Nat.zero_add] at h3;exact of_decide_eq_true h3
   rw [if_pos ⟨h1,h2⟩] at hu
   refine VSt.run tb_ok false [] 200 rfl (⟨(show f<n by omega),rfl⟩) ?_
   have e2:p (0+f)=Int.ofNat (p f).toNat:=by rw [Nat.zero_add];simp only [Int.ofNat_eq_natCast];omega
   exact ⟨(m',(p f).toNat),_,_,Wk.vw (ps:=[]) (F0:=[(0,.p (ints nb n p)),(1,nv i),(2,nv (p f).toNat)]) (L0:=[]) ⟨rfl,rfl,wf_back rfl rfl rfl (wf_back rfl rfl rfl (wf_imp rfl rfl (iv_nv e2) wf_nil)),_,rfl,LImp.refl _⟩,⟨hu,rfl,rfl⟩,Nat.lt_succ_self _⟩
  ·have h2:¬ 0≤p f:=by have h3:decide (0≤p (0+f))=false:=h2;rw [Nat.zero_add] at h3;exact of_decide_eq_false h3
   rw [if_neg (fun h=>h2 h.2)] at hu
   cases hu
   refine VSt.run tb_ok false [] 200 rfl trivial ?_
   exact EndsP.mk rfl rfl rfl rfl
 ·have h1:¬ f<i:=by have:=of_decide_eq_false h1;simp only [Int.ofNat_eq_natCast] at this;omega
  rw [if_neg (fun h=>h1 h.1)] at hu
  cases hu
  refine VSt.run tb_ok false [] 200 rfl trivial ?_
  exact EndsP.mk rfl rfl rfl rfl
def idOf (s:Stem) (x:Int):Int:=bif decide (x<0) then 0 else idAt s x.toNat
theorem ids_ok {s:Stem} {y z:PV} {nb:Bool} {p:Nat→Int} {n:Nat} (hn:n≤1000) (hp:∀ k,k<n→p k<s.copies.length):VC (sE r) [] 128 [.p (.fp (studyP s y z) 0),.p (ints nb n p)] [] (fun a L=>a = .acc true 0 1 n∧L=[(0,.acc n 1 (fun k=>[.int .i64 (idOf s (p k))]) 3)]):=by
 refine VC.of (fn:=Tryz.f128) tb_ok rfl (by kernel_rfl) rfl rfl ?_
 refine VSt.run tb_ok false [] 200 rfl trivial ?_
 refine VSt.viewC (Vw.adopt 0 1 (fun k=>[.int .i64 (idOf s (p k))]) 3 rfl) ?_
 refine VSt.rangeF tb_ok n (by omega) (fun k=>[(0,.p (.fp (studyP s y z) 0)),(5,.acc true 0 1 k),(8,.p (ints nb n p))]) (fun k=>[(0,.acc k 1 (fun k=>[.int .i64 (idOf s (p k))]) 3)]) (fun _=>True) rfl rfl (fun _=>rfl) ?_ trivial (fun k hk hp2=>?_) (fun hp2=>?_)
 ·exact Wk.vw (ps:=[(0,0)]) ⟨rfl,rfl,wf_back rfl rfl rfl (wf_back rfl rfl rfl (wf_back rfl rfl rfl (wf_imp rfl rfl AImp.nilAcc (by repeat (first | exact wf_nil | refine wf_back rfl rfl rfl ?_))))),_,rfl,LImp.refl _⟩
 ·have app:∀ x:Int,x=idOf s (p k)→∀ q,q<k+1→(bif Nat.blt q k then (fun k=>[PV.int .i64 (idOf s (p k))]) q else ([PV.int .i64 x].drop ((q - k)*1)).take 1)=(fun k=>[PV.int .i64 (idOf s (p k))]) q:=fun x hx q hq=>app_one (f:=fun k=>[PV.int .i64 (idOf s (p k))]) (by rw [hx]) hq
  have hpk:=hp k hk
  refine VSt.run tb_ok false [] 200 rfl (⟨hk,rfl⟩) ?_
  refine VSt.cond rfl (fun h1=>?_) (fun h1=>?_)
  ·refine VSt.run tb_ok false [] 200 rfl (⟨by decide,by omega,(fun q hq=>by match q,hq with | 0,_=>rfl),rfl,rfl,rfl⟩) ?_
   have hx:0=idOf s (p k):=by
    have h1:decide (p (0+k)<0)=true:=h1
    rw [Nat.zero_add] at h1
    unfold idOf;rw [h1];rfl
   exact ⟨Wk.vw (ps:=[(0,1)]) ⟨rfl,rfl,(by repeat (first | exact wf_nil | refine wf_back rfl rfl rfl ?_)),_,rfl,⟨rfl,BImp.acc rfl (app _ hx),trivial⟩⟩,trivial⟩
  ·have h1:decide (p k<0)=false:=by rw [←Nat.zero_add k];exact h1
   have h2:=of_decide_eq_false h1
   have e2:p (0+k)=Int.ofNat (p k).toNat:=by rw [Nat.zero_add];simp only [Int.ofNat_eq_natCast];omega
   first | refine VSt.putO 7 (nv (p k).toNat) rfl (iv_nv e2) ?_ | refine VSt.putD 7 (nv (p k).toNat) rfl (iv_nv e2) ?_ | refine VSt.putC 7 (nv (p k).toNat) rfl (iv_nv e2) ?_
   refine VSt.run tb_ok false [] 200 rfl (⟨(show (p k).toNat<s.copies.length by omega),rfl,by decide,by omega,(fun q hq=>by match q,hq with | 0,_=>rfl),rfl,rfl,rfl⟩) ?_
   have hx:idAt s (p k).toNat=idOf s (p k):=by
    unfold idOf;rw [h1];rfl
   exact ⟨Wk.vw (ps:=[(0,1)]) ⟨rfl,rfl,(by repeat (first | exact wf_nil | refine wf_back rfl rfl rfl ?_)),_,rfl,⟨rfl,BImp.acc rfl (app _ hx),trivial⟩⟩,trivial⟩
 ·refine VSt.run tb_ok false [] 200 rfl trivial ?_
  exact ⟨rfl,_,[(0,0)],_,_,rfl,⟨rfl,rfl,wf_imp rfl rfl (AImp.refl _) wf_nil,_,rfl,LImp.refl _⟩,rfl,rfl⟩
end Go.Proofs.YtncpeobcgmkkbaaGreat
/- The search in plain Lean. -/
set_option maxRecDepth 100000
namespace Go.Proofs.YtncpeobcgmkkbaaGreat
theorem upF_more {p:Nat→Int} {i:Nat}:∀ {m f r},upF p i m f=some r→upF p i (m+1) f=some r
 | 0,_,_,h=>by cases h
 | m+1,f,r,h=>by
  rw [upF_eq] at h ⊢
  by_cases hc:f<i∧0≤p f
  ·rw [if_pos hc] at h ⊢;exact upF_more h
  ·rw [if_neg hc] at h ⊢;exact h
theorem upF_mono {p:Nat→Int} {i m f r:Nat} (h:upF p i m f=some r):∀ d,upF p i (m+d) f=some r
 | 0=>h
 | d+1=>upF_more (upF_mono h d)
theorem upF_le {p:Nat→Int} {i m m' f r:Nat} (h:upF p i m f=some r) (hm:m≤m'):upF p i m' f=some r:=by
 obtain ⟨d,rfl⟩:=Nat.exists_eq_add_of_le hm
 exact upF_mono h d
theorem upF_ext {p p':Nat→Int} {i:Nat} (h:∀ j,j<i→p j=p' j):∀ (m f:Nat),upF p i m f=upF p' i m f
 | 0,_=>rfl
 | m+1,f=>by
  rw [upF_eq,upF_eq]
  by_cases hfi:f<i
  ·rw [h f hfi]
   by_cases h0:0≤p' f
   ·rw [if_pos ⟨hfi,h0⟩,if_pos ⟨hfi,h0⟩,upF_ext h m _]
   ·rw [if_neg (fun h=>h0 h.2),if_neg (fun h=>h0 h.2)]
  ·rw [if_neg (fun h=>hfi h.1),if_neg (fun h=>hfi h.1)]
theorem upF_next {p:Nat→Int} {i:Nat}:∀ {m f r:Nat},upF p i m f=some r→(r≠i→upF p (i+1) m f=some r)∧(r=i→∀ m2 r2,upF p (i+1) m2 i=some r2→upF p (i+1) (m+m2) f=some r2)
 | 0,_,_,h=>by cases h
 | m+1,f,r,h=>by
  rw [upF_eq] at h
  by_cases hc:f<i∧0≤p f
  ·rw [if_pos hc] at h
   have hc':f<i+1∧0≤p f:=⟨by omega,hc.2⟩
   have:=upF_next h
   refine ⟨fun hr=>by rw [upF_eq,if_pos hc'];exact this.1 hr,fun hr m2 r2 h2=>?_⟩
   rw [show m+1+m2=(m+m2)+1 by omega,upF_eq,if_pos hc']
   exact this.2 hr m2 r2 h2
  ·rw [if_neg hc] at h
   cases h
   refine ⟨fun hr=>?_,fun hr m2 r2 h2=>?_⟩
   ·rw [upF_eq,if_neg]
    intro h'
    exact hc ⟨by omega,h'.2⟩
   ·subst hr
    exact upF_le h2 (by omega)
def fuelOf:Nat→Nat
 | 0=>1
 | i+1=>fuelOf i+(fuelOf i+1)
def Acyc (p:Nat→Int) (i:Nat):Prop:=∀ f:Nat,∃ r,upF p i (fuelOf i) f=some r
def closesB (p:Nat→Int) (i f:Nat):Bool:=match upF p i (fuelOf i) f with | some r=>Int.ofNat r==Int.ofNat i | none=>false
theorem acyc_zero (p:Nat→Int):Acyc p 0:=fun f=>⟨f,by rw [show fuelOf 0=0+1 from rfl,upF_eq,if_neg (fun h=>by have:=h.1;omega)]⟩
def setP (p:Nat→Int) (i:Nat) (x:Int):Nat→Int:=fun q=>if q=i then x else p q
theorem setP_ne {p:Nat→Int} {i:Nat} {x:Int} {q:Nat} (h:q≠i):setP p i x q=p q:=if_neg h
theorem setP_eq {p:Nat→Int} {i:Nat} {x:Int}:setP p i x i=x:=if_pos rfl
theorem acyc_ext {p p':Nat→Int} {i:Nat} (h:∀ j:Nat,j<i→p j=p' j) (ha:Acyc p i):Acyc p' i:=fun f=>by
 obtain ⟨r,hr⟩:=ha f
 exact ⟨r,by rw [←upF_ext h _ f];exact hr⟩
theorem closesB_ext {p p':Nat→Int} {i:Nat} (h:∀ j:Nat,j<i→p j=p' j) (f:Nat):closesB p i f=closesB p' i f:=by
 unfold closesB;rw [upF_ext h]
theorem acyc_set {p:Nat→Int} {i:Nat} (ha:Acyc p i) (x:Int) (hx:x<0∨closesB p i x.toNat=false):Acyc (setP p i x) (i+1):=by
 have hsame:∀ j:Nat,j<i→p j=setP p i x j:=fun j hj=>(setP_ne (by omega)).symm
 have ha':Acyc (setP p i x) i:=acyc_ext hsame ha
 have hend:∃ r2,upF (setP p i x) (i+1) (fuelOf i+1) i=some r2:=by
  by_cases h0:0≤x
  ·have hcl:=hx.resolve_left (by omega)
   obtain ⟨r,hr⟩:=ha x.toNat
   have hri:r≠i:=fun e=>by simp [closesB,hr,e] at hcl
   have hr':upF (setP p i x) i (fuelOf i) x.toNat=some r:=by rw [←upF_ext hsame];exact hr
   have h1:=(upF_next hr').1 hri
   refine ⟨r,?_⟩
   rw [upF_eq,setP_eq,if_pos ⟨by omega,h0⟩]
   exact h1
  ·exact ⟨i,by rw [upF_eq,if_neg (fun h=>by have:=h.2;rw [setP_eq] at this;omega)]⟩
 intro f
 obtain ⟨r,hr⟩:=ha' f
 have hn:=upF_next hr
 by_cases hri:r=i
 ·obtain ⟨r2,h2⟩:=hend
  exact ⟨r2,hn.2 hri _ _ h2⟩
 ·exact ⟨r,upF_le (hn.1 hri) (show fuelOf i≤fuelOf i+(fuelOf i+1) by omega)⟩
structure SS where
 found:Bool
 cost:Int
 least:List (Nat→Int)
 par:Nat→Int
def cutB (s:Stem) (i:Nat) (c:Int) (σ : SS):Bool:= σ.found&&decide (c+floorI s i > σ.cost)
def leafS (c:Int) (rt:Bool) (σ : SS):SS :=
 bif rt then (bif !σ.found||decide (c < σ.cost) then ⟨true,c,[σ.par],σ.par⟩ else ⟨σ.found,σ.cost,σ.least++[σ.par],σ.par⟩) else σ
def SS.set (σ : SS) (i:Nat) (x:Int):SS:=⟨σ.found,σ.cost,σ.least,setP σ.par i x⟩
def loopS (s:Stem) (i:Nat) (c:Int) (next:Int→SS→SS):Nat→SS→SS
 | 0,σ => σ
 | k+1,σ =>bif (!(cellM s k i == -1)) && !closesB (loopS s i c next k σ).par i k then next (c+cellM s k i) ((loopS s i c next k σ).set i (Int.ofNat k)) else loopS s i c next k σ
def stepS (s:Stem):Nat→Nat→Int→Bool→SS→SS
 | 0,i,c,rt,σ =>bif cutB s i c σ then σ else leafS c rt σ
 | k+1,i,c,rt,σ =>bif cutB s i c σ then σ else loopS s i c (fun c' σ'=>stepS s k (i+1) c' rt σ') s.copies.length (bif rt then σ else stepS s k (i+1) c true (σ.set i (-1)))
theorem stepS_cut {s:Stem} {k i:Nat} {c:Int} {rt:Bool} {σ : SS} (h:cutB s i c σ = true):stepS s k i c rt σ = σ :=by
 cases k <;> (unfold stepS;rw [h];rfl)
structure Keeps (i:Nat) (σ σ':SS):Prop where
 par:∀ q,q<i→σ'.par q = σ.par q
 ne:(σ.found=true→σ.least≠[])→σ'.found=true→σ'.least≠[]
theorem Keeps.refl (i:Nat) (σ : SS):Keeps i σ σ :=⟨fun _ _=>rfl,id⟩
theorem Keeps.trans {i:Nat} {a b c:SS} (h:Keeps i a b) (k:Keeps i b c):Keeps i a c:=⟨fun q hq=>(k.par q hq).trans (h.par q hq),fun hn=>k.ne (h.ne hn)⟩
theorem Keeps.set {i:Nat} {a b:SS} {x:Int} (h:Keeps (i+1) (a.set i x) b):Keeps i a b :=
 ⟨fun q hq=>(h.par q (by omega)).trans (setP_ne (by omega)),h.ne⟩
theorem leafS_keeps (i:Nat) (c:Int) (rt:Bool) (σ : SS):Keeps i σ (leafS c rt σ):=by
 unfold leafS
 cases rt with
 | false=>exact Keeps.refl _ _
 | true =>
  cases (!σ.found||decide (c < σ.cost)) with
  | true=>exact ⟨fun _ _=>rfl,fun _ _=>by simp⟩
  | false=>exact ⟨fun _ _=>rfl,fun _ _=>by simp⟩
theorem loopS_keeps {s:Stem} {i:Nat} {c:Int} {next:Int→SS→SS} (hn:∀ c' σ',Keeps (i+1) σ' (next c' σ')):∀ (k:Nat) (σ : SS),Keeps i σ (loopS s i c next k σ)
 | 0,σ =>Keeps.refl _ _
 | k+1,σ =>by
  have ih:=loopS_keeps (s:=s) (c:=c) hn k σ
  unfold loopS
  cases ((!(cellM s k i == -1)) && !closesB (loopS s i c next k σ).par i k) with
  | true=>exact ih.trans (Keeps.set (hn _ _))
  | false=>exact ih
theorem stepS_keeps (s:Stem):∀ (k i:Nat) (c:Int) (rt:Bool) (σ : SS),Keeps i σ (stepS s k i c rt σ)
 | 0,i,c,rt,σ =>by
  unfold stepS
  cases cutB s i c σ with
  | true=>exact Keeps.refl _ _
  | false=>exact leafS_keeps i c rt σ
 | k+1,i,c,rt,σ =>by
  unfold stepS
  cases cutB s i c σ with
  | true=>exact Keeps.refl _ _
  | false =>
   refine Keeps.trans ?_ (loopS_keeps (fun c' σ'=>stepS_keeps s k (i+1) c' rt σ') _ _)
   cases rt with
   | true=>exact Keeps.refl _ _
   | false=>exact Keeps.set (stepS_keeps s k (i+1) c true _)
structure PInv (s:Stem) (i:Nat) (σ : SS):Prop where
 lt:∀ q,q<i→σ.par q<s.copies.length
 ac:Acyc σ.par i
 ne : σ.found=true→σ.least≠[]
theorem PInv.keep {s:Stem} {i:Nat} {σ σ':SS} (h:PInv s i σ) (k:Keeps i σ σ'):PInv s i σ' :=
 ⟨fun q hq=>by rw [k.par q hq];exact h.lt q hq,acyc_ext (fun j hj=>(k.par j hj).symm) h.ac,k.ne h.ne⟩
theorem PInv.root {s:Stem} {i:Nat} {σ : SS} (h:PInv s i σ) (hn:0<s.copies.length):PInv s (i+1) (σ.set i (-1)):=by
 refine ⟨fun q hq=>?_,acyc_set h.ac (-1) (.inl (by decide)),h.ne⟩
 show setP σ.par i (-1) q<_
 by_cases e:q=i
 ·subst e;rw [setP_eq];omega
 ·rw [setP_ne e];exact h.lt q (by omega)
theorem PInv.set {s:Stem} {i k:Nat} {σ : SS} (h:PInv s i σ) (hk:k<s.copies.length) (hc:closesB σ.par i k=false):PInv s (i+1) (σ.set i (Int.ofNat k)):=by
 refine ⟨fun q hq=>?_,acyc_set h.ac (Int.ofNat k) (.inr hc),h.ne⟩
 show setP σ.par i (Int.ofNat k) q<_
 by_cases e:q=i
 ·subst e;rw [setP_eq];simp only [Int.ofNat_eq_natCast];omega
 ·rw [setP_ne e];exact h.lt q (by omega)
def manyW (n:Nat):Nat→Bool→Nat
 | 0,rt=>bif rt then 1 else 0
 | k+1,rt=>(bif rt then 0 else manyW n k true)+n*manyW n k rt
theorem loopS_many {s:Stem} {i:Nat} {c:Int} {next:Int→SS→SS} {w:Nat} (hn:∀ c' σ',(next c' σ').least.length≤σ'.least.length+w):∀ (k:Nat) (σ : SS),(loopS s i c next k σ).least.length≤σ.least.length+k*w
 | 0,σ =>by simp [loopS]
 | k+1,σ =>by
  have ih:=loopS_many (s:=s) (i:=i) (c:=c) hn k σ
  rw [Nat.succ_mul]
  unfold loopS
  cases ((!(cellM s k i == -1)) && !closesB (loopS s i c next k σ).par i k) with
  | true =>
   have h1:=hn (c+cellM s k i) ((loopS s i c next k σ).set i (Int.ofNat k))
   have h2:((loopS s i c next k σ).set i (Int.ofNat k)).least=(loopS s i c next k σ).least:=rfl
   rw [h2] at h1
   simp only [cond_true];omega
  | false=>simp only [cond_false];omega
theorem leafS_many (c:Int) (rt:Bool) (σ : SS):(leafS c rt σ).least.length≤σ.least.length+(bif rt then 1 else 0):=by
 unfold leafS
 cases rt with
 | false=>exact Nat.le_refl _
 | true =>
  cases (!σ.found||decide (c < σ.cost)) with
  | true=>simp
  | false=>simp
theorem stepS_many (s:Stem):∀ (k i:Nat) (c:Int) (rt:Bool) (σ : SS),(stepS s k i c rt σ).least.length≤σ.least.length+manyW s.copies.length k rt
 | 0,i,c,rt,σ =>by
  unfold stepS
  cases cutB s i c σ with
  | true=>exact Nat.le_add_right _ _
  | false=>exact leafS_many c rt σ
 | k+1,i,c,rt,σ =>by
  unfold stepS
  cases cutB s i c σ with
  | true=>exact Nat.le_add_right _ _
  | false =>
   refine Nat.le_trans (loopS_many (w:=manyW s.copies.length k rt) (fun c' σ'=>stepS_many s k (i+1) c' rt σ') _ _) ?_
   show _≤_+((bif rt then 0 else manyW s.copies.length k true)+s.copies.length*manyW s.copies.length k rt)
   cases rt with
   | true=>simp
   | false =>
    have h:=stepS_many s k (i+1) c true (σ.set i (-1))
    have h2:(σ.set i (-1)).least = σ.least:=rfl
    rw [h2] at h
    simp only [cond_false];omega
theorem many_all {n:Nat} (h:n≤7):manyW n n false≤1000000:=by
 have:∀ n,n<8→manyW n n false≤1000000:=by decide
 exact this n (by omega)
end Go.Proofs.YtncpeobcgmkkbaaGreat
/- Walks: a step of the search. -/
set_option maxRecDepth 100000
namespace Go.Proofs.YtncpeobcgmkkbaaGreat
variable {r:Tr (List Value×TypeId)}
def idsP (s:Stem) (p:Nat→Int):PV:=.lst 3 false s.copies.length fun k=>[.int .i64 (idOf s (p k))]
def fLst (s:Stem) (l:List (Nat→Int)):Nat→List PV:=fun q=>[idsP s (l.getD q fun _=>0)]
def stepF:AV:=.fn 127 [] [.ref 6 0,.ref 2 0,.ref 1 0,.ref 5 0,.ref 7 0]
def SM (s:Stem) (σ : SS):VS:=[(0,studyC s (.p (rowsP s)) (.acc true 8 1 σ.least.length) σ.cost),(1,.cells [.ref 0 0] 71),(2,.cells [.map 3] 144),(3,.mapI (flK s (s.copies.length+1))),
 (4,.arr s.copies.length 1 (fun q=>[.int .i64 (σ.par q)]) 3),(5,.cells [.sl 4 1 0 s.copies.length s.copies.length 1] 28),(6,.cells [bv σ.found] 4),(7,.cells [stepF] 146),(8,.acc σ.least.length 1 (fLst s σ.least) 28)]
theorem set_cell (p:Nat→Int) (i:Nat) (x:Int) (q:Nat):(bif Nat.beq q (0+i) then ppaste [PV.int .i64 (p (0+i))] 0 [PV.int .i64 x] else [PV.int .i64 (p q)])=[PV.int .i64 (setP p i x q)]:=by
 rw [Nat.zero_add]
 by_cases h:q=i
 ·subst h;rw [Nat.beq_refl,setP_eq];rfl
 ·rw [beq_ne h,setP_ne h];rfl
theorem SM_set {s:Stem} {σ : SS} {i:Nat} {x:Int} {f:Nat→List PV} (hf:∀ q,q<s.copies.length→f q=[PV.int .i64 (setP σ.par i x q)]):LImp [(0,studyC s (.p (rowsP s)) (.acc true 8 1 σ.least.length) σ.cost),(1,.cells [.ref 0 0] 71),(2,.cells [.map 3] 144),(3,.mapI (flK s (s.copies.length+1))),
 (4,.arr s.copies.length 1 f 3),(5,.cells [.sl 4 1 0 s.copies.length s.copies.length 1] 28),(6,.cells [bv σ.found] 4),(7,.cells [stepF] 146),(8,.acc σ.least.length 1 (fLst s σ.least) 28)] (SM s (σ.set i x)) :=
 ⟨rfl,BImp.refl _,rfl,BImp.refl _,rfl,BImp.refl _,rfl,BImp.refl _,rfl,BImp.arr' rfl hf,rfl,BImp.refl _,rfl,BImp.refl _,rfl,BImp.refl _,rfl,BImp.refl _,trivial⟩
theorem ids_flag {s:Stem} {p:Nat→Int} (h0:Nat.beq s.copies.length 0=false):AV.p (PV.lst 3 (true&&Nat.beq s.copies.length 0) s.copies.length fun k=>[PV.int .i64 (idOf s (p k))])=AV.p (idsP s p):=by
 rw [h0];rfl
theorem one_id {s:Stem} {p:Nat→Int} (q:Nat) (hq:q<1):([idsP s p].drop (q*1)).take 1=fLst s [p] q:=by
 have:q=0:=by omega
 subst this;rfl
theorem more_id {s:Stem} {l:List (Nat→Int)} {p:Nat→Int} (q:Nat) (hq:q<l.length+1):(bif Nat.blt q l.length then fLst s l (0+q) else ([idsP s p].drop ((q - l.length)*1)).take 1)=fLst s (l++[p]) q:=by
 by_cases h:q<l.length
 ·rw [blt_t h,Nat.zero_add]
  show [idsP s (l.getD q _)]=[idsP s ((l++[p]).getD q _)]
  rw [List.getD_eq_getElem?_getD,List.getD_eq_getElem?_getD,List.getElem?_append_left h]
 ·have:q=l.length:=by omega
  subst this
  rw [blt_f h,Nat.sub_self]
  show [idsP s p]=[idsP s ((l++[p]).getD l.length _)]
  rw [List.getD_eq_getElem?_getD];simp
set_option maxHeartbeats 4000000 in
theorem step_ok {s:Stem} (hs:s.Ok) (hv:s.Valid):∀ (k i:Nat) (c:Int) (rt:Bool) (σ : SS),i+k=s.copies.length→PInv s i σ → (0≤c∧c≤1600*i)→(rt=true→0<s.copies.length)→σ.least.length+manyW s.copies.length k rt≤1000000 →
  VC (sE r) [0,1,2,3,4,5,6,7] 127 [nv i,iv c,bv rt,.ref 6 0,.ref 2 0,.ref 1 0,.ref 5 0,.ref 7 0] (SM s σ) (fun a L=>a = .tup []∧L=SM s (stepS s k i c rt σ)):=by
 intro k
 induction k with
 | zero =>
  intro i c rt σ hik hP hc hrt hb
  have hi:i=s.copies.length:=hik
  have hn:s.copies.length≤7:=hv.c
  have hfb:=floorI_bd hv i
  have efl:(flK s (s.copies.length+1) (Int.ofNat i)).getD 0=floorI s i:=by rw [flK_get s (by omega)];rfl
  refine VC.of (fn:=Tryz.f127) tb_ok rfl (by kernel_rfl) rfl rfl ?_
  refine VSt.run tb_ok false [] 200 rfl trivial ?_
  first | refine VSt.splitO 14 rfl (fun g1=>?_) (fun g1=>?_) | refine VSt.splitD 14 rfl (fun g1=>?_) (fun g1=>?_)
  all_goals
   first
    | (
      have g1 : σ.found=true:=g1
      refine VSt.run tb_ok false [] 200 rfl ((by show inR (c+(flK s (s.copies.length+1) (Int.ofNat i)).getD 0);rw [efl];unfold inR;omega)) ?_
      refine VSt.cond rfl (fun g2=>?_) (fun g2=>?_)
      ·have g2:decide (c+(flK s (s.copies.length+1) (Int.ofNat i)).getD 0 > σ.cost)=true:=g2
       have hcut:cutB s i c σ = true:=by
        unfold cutB
        rw [g1,←efl,g2];rfl
       refine VSt.run tb_ok false [] 200 rfl trivial ?_
       rw [stepS_cut hcut]
       exact ⟨rfl,_,[(0,0),(1,1),(2,2),(3,3),(4,4),(5,5),(6,6),(7,7),(8,8)],_,_,rfl,⟨rfl,rfl,wf_imp rfl rfl (AImp.refl _) wf_nil,_,rfl,LImp.refl _⟩,rfl,rfl⟩
      have g2:decide (c+(flK s (s.copies.length+1) (Int.ofNat i)).getD 0 > σ.cost)=false:=g2
      have hcut:cutB s i c σ = false:=by
       unfold cutB
       rw [g1,←efl,g2];rfl
      refine VSt.run tb_ok false [] 200 rfl trivial ?_
      refine VSt.viewC (Wk.vw (ps:=[(0,0),(1,1),(2,2),(3,3),(4,4),(5,5),(6,6),(7,7),(8,8)]) (F0:=[(0,nv i),(1,iv c),(2,bv rt),(3,.ref 6 0),(4,.ref 2 0),(5,.ref 1 0),(6,.ref 5 0),(7,.ref 7 0),(29,bv (Int.ofNat i==Int.ofNat s.copies.length))]) (L0:=SM s σ) ⟨rfl,rfl,(by repeat (first | exact wf_nil | refine wf_back rfl rfl rfl ?_)),_,rfl,LImp.refl _⟩) ?_
     )
    | (
      have g1 : σ.found=false:=g1
      have hcut:cutB s i c σ = false:=by
       unfold cutB
       rw [g1];rfl
      refine VSt.run tb_ok false [] 200 rfl trivial ?_
      refine VSt.viewC (Wk.vw (ps:=[(0,0),(1,1),(2,2),(3,3),(4,4),(5,5),(6,6),(7,7),(8,8)]) (F0:=[(0,nv i),(1,iv c),(2,bv rt),(3,.ref 6 0),(4,.ref 2 0),(5,.ref 1 0),(6,.ref 5 0),(7,.ref 7 0),(29,bv (Int.ofNat i==Int.ofNat s.copies.length))]) (L0:=SM s σ) ⟨rfl,rfl,(by repeat (first | exact wf_nil | refine wf_back rfl rfl rfl ?_)),_,rfl,LImp.refl _⟩) ?_
     )
  all_goals
   have eS:stepS s 0 i c rt σ = leafS c rt σ :=by rw [stepS,hcut];rfl
   refine VSt.cond rfl (fun _=>?_) (fun h=>absurd (show (Int.ofNat i==Int.ofNat s.copies.length)=false from h) (by rw [hi,beq_self_eq_true];decide))
   refine VSt.run tb_ok false [] 200 rfl trivial ?_
   refine VSt.cond rfl (fun h1=>?_) (fun h1=>?_)
   ·have h2:(!rt)=true:=h1
    have hr0:rt=false:=by simpa using h2
    refine VSt.run tb_ok false [] 200 rfl trivial ?_
    have eL:stepS s 0 i c rt σ = σ :=by rw [eS,hr0];rfl
    rw [eL]
    exact ⟨rfl,_,[(0,0),(1,1),(2,2),(3,3),(4,4),(5,5),(6,6),(7,7),(8,8)],_,_,rfl,⟨rfl,rfl,wf_imp rfl rfl (AImp.refl _) wf_nil,_,rfl,LImp.refl _⟩,rfl,rfl⟩
   have h2:(!rt)=false:=h1
   have hr0:rt=true:=by simpa using h2
   have hpos:=hrt hr0
   have hn0:Nat.beq s.copies.length 0=false:=beq_ne (by omega)
   have hlt:∀ q,q<s.copies.length→σ.par q<s.copies.length:=fun q hq=>hP.lt q (by omega)
   have hb2 : σ.least.length+1≤1000000:=by
    have h3:=hb
    rw [manyW,hr0] at h3
    exact h3
   have new:(!σ.found||decide (c < σ.cost))=true→stepS s 0 i c rt σ = ⟨true,c,[σ.par],σ.par⟩:=fun h=>by
    rw [eS,hr0];unfold leafS;rw [h];rfl
   have eq:(!σ.found||decide (c < σ.cost))=false→stepS s 0 i c rt σ = ⟨σ.found,σ.cost,σ.least++[σ.par],σ.par⟩:=fun h=>by
    rw [eS,hr0];unfold leafS;rw [h];rfl
   refine VSt.run tb_ok false [] 200 rfl trivial ?_
   first | refine VSt.splitO 34 rfl (fun b1=>?_) (fun b1=>?_) | refine VSt.splitD 34 rfl (fun b1=>?_) (fun b1=>?_)
  all_goals
   first
    | (exfalso;have b2:(!σ.found)=true:=b1;have g3 : σ.found=true:=g1;rw [g3] at b2;exact absurd b2 (by decide))
    | (exfalso;have b2:(!σ.found)=false:=b1;have g3 : σ.found=false:=g1;rw [g3] at b2;exact absurd b2 (by decide))
    | (
      have b2:(!σ.found)=true:=b1
      have hnew:(!σ.found||decide (c < σ.cost))=true:=by rw [b2];rfl
      refine VSt.run tb_ok false [] 23 rfl trivial ?_
      refine VSt.viewC (Wk.vw (ps:=[(0,0),(1,1),(2,2),(3,3),(4,4),(5,5),(6,6),(7,7)]) (F0:=[(0,nv i),(1,iv c),(2,bv rt),(3,.ref 6 0),(4,.ref 2 0),(5,.ref 1 0),(6,.ref 5 0),(7,.ref 7 0)]) (L0:=[(0,studyC s (.p (rowsP s)) (.p (.lst 0 true 0 fun _=>[])) c),(1,.cells [.ref 0 0] 71),(2,.cells [.map 3] 144),(3,.mapI (flK s (s.copies.length+1))),(4,.arr s.copies.length 1 (fun q=>[.int .i64 (σ.par q)]) 3),(5,.cells [.sl 4 1 0 s.copies.length s.copies.length 1] 28),(6,.cells [bv true] 4),(7,.cells [stepF] 146)]) ⟨rfl,rfl,(by repeat (first | exact wf_nil | refine wf_back rfl rfl rfl ?_)),_,rfl,LImp.refl _⟩) ?_
      refine VSt.run tb_ok false [] 200 rfl trivial ?_
      refine VSt.lookD (Vw.trans (Wk.vw (ps:=[(0,0),(4,4)]) (F0:=[(54,.ref 0 0),(55,.sl 4 1 0 s.copies.length s.copies.length 1)]) (L0:=[(0,studyC s (.p (rowsP s)) (.p (.lst 0 true 0 fun _=>[])) c),(4,.arr s.copies.length 1 (fun q=>[.int .i64 (σ.par q)]) 3)]) ⟨rfl,rfl,(by repeat (first | exact wf_nil | refine wf_back rfl rfl rfl ?_)),_,rfl,LImp.refl _⟩) (Vw.trans (Vw.freezeC 0 (studyP s (.lst 0 true 0 fun _=>[]) (.int .i64 c)) rfl rfl) (Vw.freeze 4 rfl rfl ⟨Nat.le_of_eq (Nat.zero_add _),Nat.le_refl _,rfl⟩))) rfl rfl rfl rfl rfl rfl rfl (ids_ok (by omega) hlt) (fun a L' h=>by rw [h.1,h.2];exact ⟨rfl,fun k hk=>rfl,trivial⟩) ?_
      rintro a L' ⟨rfl,rfl⟩
      refine VSt.viewD (Vw.trans (Wk.vw (ps:=[(0,0),(1,1),(2,2),(3,3),(4,4),(5,5),(6,6),(7,7),(8,8)]) (F0:=[(5,.ref 1 0),(49,.ref 0 0),(53,.p (.lst 0 true 0 fun _=>[])),(56,.acc true 8 1 s.copies.length)]) (L0:=[(0,studyC s (.p (rowsP s)) (.p (.lst 0 true 0 fun _=>[])) c),(1,.cells [.ref 0 0] 71),(2,.cells [.map 3] 144),(3,.mapI (flK s (s.copies.length+1))),(4,.arr s.copies.length 1 (fun q=>[.int .i64 (σ.par q)]) 3),(5,.cells [.sl 4 1 0 s.copies.length s.copies.length 1] 28),(6,.cells [bv true] 4),(7,.cells [stepF] 146),(8,.acc s.copies.length 1 (fun k=>[.int .i64 (idOf s (σ.par k))]) 3)]) ⟨rfl,rfl,(by repeat (first | exact wf_nil | refine wf_back rfl rfl rfl ?_)),_,rfl,LImp.refl _⟩) (Vw.trans (Vw.freezeA 8 rfl rfl ⟨Nat.le_refl _,rfl⟩) (Wk.vw (ps:=[(0,0),(1,1),(2,2),(3,3),(4,4),(5,5),(6,6),(7,7)]) (F0:=[(5,.ref 1 0),(49,.ref 0 0),(53,.p (.lst 0 true 0 fun _=>[])),(56,.p (idsP s σ.par))]) (L0:=[(0,studyC s (.p (rowsP s)) (.p (.lst 0 true 0 fun _=>[])) c),(1,.cells [.ref 0 0] 71),(2,.cells [.map 3] 144),(3,.mapI (flK s (s.copies.length+1))),(4,.arr s.copies.length 1 (fun q=>[.int .i64 (σ.par q)]) 3),(5,.cells [.sl 4 1 0 s.copies.length s.copies.length 1] 28),(6,.cells [bv true] 4),(7,.cells [stepF] 146)]) ⟨rfl,rfl,wf_back rfl rfl rfl (wf_back rfl rfl rfl (wf_back rfl rfl rfl (wf_imp rfl rfl (AImp.of_eq (ids_flag hn0)) wf_nil))),_,rfl,LImp.refl _⟩))) ?_
      refine VSt.run tb_ok false [] 200 rfl (⟨Nat.succ_pos 0,(by decide),(fun q hq=>by match q,hq with | 0,_=>rfl)⟩) ?_
      rw [new hnew]
      exact ⟨rfl,_,[(0,0),(1,1),(2,2),(3,3),(4,4),(5,5),(6,6),(7,7),(8,8)],_,SM s ⟨true,c,[σ.par],σ.par⟩,rfl,⟨rfl,rfl,wf_imp rfl rfl (AImp.refl _) wf_nil,_,rfl,⟨rfl,BImp.cells ⟨AImp.refl _,AImp.refl _,AImp.refl _,AImp.refl _,AImp.refl _,AImp.refl _,AImp.refl _,AImp.slAcc (Nat.succ_pos 0) rfl rfl,AImp.refl _,trivial⟩,rfl,BImp.refl _,rfl,BImp.refl _,rfl,BImp.refl _,rfl,BImp.refl _,rfl,BImp.refl _,rfl,BImp.refl _,rfl,BImp.refl _,rfl,BImp.arrAcc rfl (fun q hq=>one_id q hq),trivial⟩⟩,rfl,rfl⟩
     )
    | (
      have b2:(!σ.found)=false:=b1
      refine VSt.run tb_ok false [] 200 rfl trivial ?_
      refine VSt.cond rfl (fun b3=>?_) (fun b3=>?_)
     )
  all_goals
   first
    | (
      have b4:decide (c < σ.cost)=true:=b3
      have hnew:(!σ.found||decide (c < σ.cost))=true:=by rw [b4,Bool.or_true]
      refine VSt.run tb_ok false [] 13 rfl trivial ?_
      refine VSt.viewC (Wk.vw (ps:=[(0,0),(1,1),(2,2),(3,3),(4,4),(5,5),(6,6),(7,7)]) (F0:=[(0,nv i),(1,iv c),(2,bv rt),(3,.ref 6 0),(4,.ref 2 0),(5,.ref 1 0),(6,.ref 5 0),(7,.ref 7 0)]) (L0:=[(0,studyC s (.p (rowsP s)) (.p (.lst 0 true 0 fun _=>[])) c),(1,.cells [.ref 0 0] 71),(2,.cells [.map 3] 144),(3,.mapI (flK s (s.copies.length+1))),(4,.arr s.copies.length 1 (fun q=>[.int .i64 (σ.par q)]) 3),(5,.cells [.sl 4 1 0 s.copies.length s.copies.length 1] 28),(6,.cells [bv true] 4),(7,.cells [stepF] 146)]) ⟨rfl,rfl,(by repeat (first | exact wf_nil | refine wf_back rfl rfl rfl ?_)),_,rfl,LImp.refl _⟩) ?_
      refine VSt.run tb_ok false [] 200 rfl trivial ?_
      refine VSt.lookD (Vw.trans (Wk.vw (ps:=[(0,0),(4,4)]) (F0:=[(54,.ref 0 0),(55,.sl 4 1 0 s.copies.length s.copies.length 1)]) (L0:=[(0,studyC s (.p (rowsP s)) (.p (.lst 0 true 0 fun _=>[])) c),(4,.arr s.copies.length 1 (fun q=>[.int .i64 (σ.par q)]) 3)]) ⟨rfl,rfl,(by repeat (first | exact wf_nil | refine wf_back rfl rfl rfl ?_)),_,rfl,LImp.refl _⟩) (Vw.trans (Vw.freezeC 0 (studyP s (.lst 0 true 0 fun _=>[]) (.int .i64 c)) rfl rfl) (Vw.freeze 4 rfl rfl ⟨Nat.le_of_eq (Nat.zero_add _),Nat.le_refl _,rfl⟩))) rfl rfl rfl rfl rfl rfl rfl (ids_ok (by omega) hlt) (fun a L' h=>by rw [h.1,h.2];exact ⟨rfl,fun k hk=>rfl,trivial⟩) ?_
      rintro a L' ⟨rfl,rfl⟩
      refine VSt.viewD (Vw.trans (Wk.vw (ps:=[(0,0),(1,1),(2,2),(3,3),(4,4),(5,5),(6,6),(7,7),(8,8)]) (F0:=[(5,.ref 1 0),(49,.ref 0 0),(53,.p (.lst 0 true 0 fun _=>[])),(56,.acc true 8 1 s.copies.length)]) (L0:=[(0,studyC s (.p (rowsP s)) (.p (.lst 0 true 0 fun _=>[])) c),(1,.cells [.ref 0 0] 71),(2,.cells [.map 3] 144),(3,.mapI (flK s (s.copies.length+1))),(4,.arr s.copies.length 1 (fun q=>[.int .i64 (σ.par q)]) 3),(5,.cells [.sl 4 1 0 s.copies.length s.copies.length 1] 28),(6,.cells [bv true] 4),(7,.cells [stepF] 146),(8,.acc s.copies.length 1 (fun k=>[.int .i64 (idOf s (σ.par k))]) 3)]) ⟨rfl,rfl,(by repeat (first | exact wf_nil | refine wf_back rfl rfl rfl ?_)),_,rfl,LImp.refl _⟩) (Vw.trans (Vw.freezeA 8 rfl rfl ⟨Nat.le_refl _,rfl⟩) (Wk.vw (ps:=[(0,0),(1,1),(2,2),(3,3),(4,4),(5,5),(6,6),(7,7)]) (F0:=[(5,.ref 1 0),(49,.ref 0 0),(53,.p (.lst 0 true 0 fun _=>[])),(56,.p (idsP s σ.par))]) (L0:=[(0,studyC s (.p (rowsP s)) (.p (.lst 0 true 0 fun _=>[])) c),(1,.cells [.ref 0 0] 71),(2,.cells [.map 3] 144),(3,.mapI (flK s (s.copies.length+1))),(4,.arr s.copies.length 1 (fun q=>[.int .i64 (σ.par q)]) 3),(5,.cells [.sl 4 1 0 s.copies.length s.copies.length 1] 28),(6,.cells [bv true] 4),(7,.cells [stepF] 146)]) ⟨rfl,rfl,wf_back rfl rfl rfl (wf_back rfl rfl rfl (wf_back rfl rfl rfl (wf_imp rfl rfl (AImp.of_eq (ids_flag hn0)) wf_nil))),_,rfl,LImp.refl _⟩))) ?_
      refine VSt.run tb_ok false [] 200 rfl (⟨Nat.succ_pos 0,(by decide),(fun q hq=>by match q,hq with | 0,_=>rfl)⟩) ?_
      rw [new hnew]
      exact ⟨rfl,_,[(0,0),(1,1),(2,2),(3,3),(4,4),(5,5),(6,6),(7,7),(8,8)],_,SM s ⟨true,c,[σ.par],σ.par⟩,rfl,⟨rfl,rfl,wf_imp rfl rfl (AImp.refl _) wf_nil,_,rfl,⟨rfl,BImp.cells ⟨AImp.refl _,AImp.refl _,AImp.refl _,AImp.refl _,AImp.refl _,AImp.refl _,AImp.refl _,AImp.slAcc (Nat.succ_pos 0) rfl rfl,AImp.refl _,trivial⟩,rfl,BImp.refl _,rfl,BImp.refl _,rfl,BImp.refl _,rfl,BImp.refl _,rfl,BImp.refl _,rfl,BImp.refl _,rfl,BImp.refl _,rfl,BImp.arrAcc rfl (fun q hq=>one_id q hq),trivial⟩⟩,rfl,rfl⟩
     )
    | (
      have b4:decide (c < σ.cost)=false:=b3
      have hold:(!σ.found||decide (c < σ.cost))=false:=by rw [b2,b4];rfl
      have hm:0 < σ.least.length:=List.length_pos_iff.2 (hP.ne g1)
      refine VSt.viewC (Wk.vw (ps:=[(0,0),(1,1),(2,2),(3,3),(4,4),(5,5),(6,6),(7,7),(8,8)]) (F0:=[(0,nv i),(1,iv c),(2,bv rt),(3,.ref 6 0),(4,.ref 2 0),(5,.ref 1 0),(6,.ref 5 0),(7,.ref 7 0)])
       (L0:=[(0,studyC s (.p (rowsP s)) (.sl 8 1 0 σ.least.length σ.least.length 0) σ.cost),(1,.cells [.ref 0 0] 71),(2,.cells [.map 3] 144),(3,.mapI (flK s (s.copies.length+1))),(4,.arr s.copies.length 1 (fun q=>[.int .i64 (σ.par q)]) 3),(5,.cells [.sl 4 1 0 s.copies.length s.copies.length 1] 28),(6,.cells [bv σ.found] 4),(7,.cells [stepF] 146),(8,.arr σ.least.length 1 (fLst s σ.least) 28)])
       ⟨rfl,rfl,(by repeat (first | exact wf_nil | refine wf_back rfl rfl rfl ?_)),_,rfl,⟨rfl,BImp.cells ⟨AImp.refl _,AImp.refl _,AImp.refl _,AImp.refl _,AImp.refl _,AImp.refl _,AImp.refl _,AImp.accSl hm rfl rfl,AImp.refl _,trivial⟩,rfl,BImp.refl _,rfl,BImp.refl _,rfl,BImp.refl _,rfl,BImp.refl _,rfl,BImp.refl _,rfl,BImp.refl _,rfl,BImp.refl _,rfl,BImp.accArr hm rfl (fun q hq=>rfl),trivial⟩⟩) ?_
      refine VSt.run tb_ok false [] 200 rfl trivial ?_
      refine VSt.lookD (Vw.trans (Wk.vw (ps:=[(0,0),(4,4),(8,8)]) (F0:=[(54,.ref 0 0),(55,.sl 4 1 0 s.copies.length s.copies.length 1)]) (L0:=[(0,studyC s (.p (rowsP s)) (.sl 8 1 0 σ.least.length σ.least.length 0) σ.cost),(4,.arr s.copies.length 1 (fun q=>[.int .i64 (σ.par q)]) 3),(8,.arr σ.least.length 1 (fLst s σ.least) 28)]) ⟨rfl,rfl,(by repeat (first | exact wf_nil | refine wf_back rfl rfl rfl ?_)),_,rfl,LImp.refl _⟩) (Vw.trans (Vw.freeze 8 rfl rfl ⟨Nat.le_of_eq (Nat.zero_add _),Nat.le_refl _,rfl⟩) (Vw.trans (Vw.freezeC 0 (studyP s (.lst 28 false σ.least.length fun x=>fLst s σ.least (0+x)) (.int .i64 σ.cost)) rfl rfl) (Vw.freeze 4 rfl rfl ⟨Nat.le_of_eq (Nat.zero_add _),Nat.le_refl _,rfl⟩)))) rfl rfl rfl rfl rfl rfl rfl (ids_ok (by omega) hlt) (fun a L' h=>by rw [h.1,h.2];exact ⟨rfl,fun k hk=>rfl,trivial⟩) ?_
      rintro a L' ⟨rfl,rfl⟩
      refine VSt.viewD (Vw.trans (Wk.vw (ps:=[(0,0),(1,1),(2,2),(3,3),(4,4),(5,5),(6,6),(7,7),(8,8),(9,9)]) (F0:=[(5,.ref 1 0),(49,.ref 0 0),(53,.sl 8 1 0 σ.least.length σ.least.length 0),(56,.acc true 9 1 s.copies.length)]) (L0:=[(0,studyC s (.p (rowsP s)) (.sl 8 1 0 σ.least.length σ.least.length 0) σ.cost),(1,.cells [.ref 0 0] 71),(2,.cells [.map 3] 144),(3,.mapI (flK s (s.copies.length+1))),(4,.arr s.copies.length 1 (fun q=>[.int .i64 (σ.par q)]) 3),(5,.cells [.sl 4 1 0 s.copies.length s.copies.length 1] 28),(6,.cells [bv σ.found] 4),(7,.cells [stepF] 146),(8,.arr σ.least.length 1 (fLst s σ.least) 28),(9,.acc s.copies.length 1 (fun k=>[.int .i64 (idOf s (σ.par k))]) 3)]) ⟨rfl,rfl,(by repeat (first | exact wf_nil | refine wf_back rfl rfl rfl ?_)),_,rfl,LImp.refl _⟩) (Vw.trans (Vw.freezeA 9 rfl rfl ⟨Nat.le_refl _,rfl⟩) (Wk.vw (ps:=[(0,0),(1,1),(2,2),(3,3),(4,4),(5,5),(6,6),(7,7),(8,8)]) (F0:=[(5,.ref 1 0),(49,.ref 0 0),(53,.sl 8 1 0 σ.least.length σ.least.length 0),(56,.p (idsP s σ.par))]) (L0:=[(0,studyC s (.p (rowsP s)) (.sl 8 1 0 σ.least.length σ.least.length 0) σ.cost),(1,.cells [.ref 0 0] 71),(2,.cells [.map 3] 144),(3,.mapI (flK s (s.copies.length+1))),(4,.arr s.copies.length 1 (fun q=>[.int .i64 (σ.par q)]) 3),(5,.cells [.sl 4 1 0 s.copies.length s.copies.length 1] 28),(6,.cells [bv σ.found] 4),(7,.cells [stepF] 146),(8,.arr σ.least.length 1 (fLst s σ.least) 28)]) ⟨rfl,rfl,wf_back rfl rfl rfl (wf_back rfl rfl rfl (wf_back rfl rfl rfl (wf_imp rfl rfl (AImp.of_eq (ids_flag hn0)) wf_nil))),_,rfl,LImp.refl _⟩))) ?_
      refine VSt.run tb_ok false [] 200 rfl (⟨Nat.succ_pos 0,(by omega),(fun q hq=>by match q,hq with | 0,_=>rfl),rfl,rfl,Nat.lt_succ_self _,(by show 0 + σ.least.length≤σ.least.length;omega)⟩) ?_
      rw [eq hold]
      have hlen:(σ.least++[σ.par]).length = σ.least.length+1:=by simp
      exact ⟨rfl,_,[(0,0),(1,1),(2,2),(3,3),(4,4),(5,5),(6,6),(7,7),(8,9)],_,SM s ⟨σ.found,σ.cost,σ.least++[σ.par],σ.par⟩,rfl,⟨rfl,rfl,wf_imp rfl rfl (AImp.refl _) wf_nil,_,rfl,⟨rfl,BImp.cells ⟨AImp.refl _,AImp.refl _,AImp.refl _,AImp.refl _,AImp.refl _,AImp.refl _,AImp.refl _,AImp.slAcc (by rw [hlen];omega) hlen.symm hlen.symm,AImp.refl _,trivial⟩,rfl,BImp.refl _,rfl,BImp.refl _,rfl,BImp.refl _,rfl,BImp.refl _,rfl,BImp.refl _,rfl,BImp.refl _,rfl,BImp.refl _,rfl,BImp.arrAcc hlen.symm (fun q hq=>more_id q hq),trivial⟩⟩,rfl,rfl⟩
     )
 | succ k ih =>
  intro i c rt σ hik hP hc hrt hb
  have hi:i<s.copies.length:=by omega
  have hn:s.copies.length≤7:=hv.c
  have hfb:=floorI_bd hv i
  have efl:(flK s (s.copies.length+1) (Int.ofNat i)).getD 0=floorI s i:=by rw [flK_get s (by omega)];rfl
  refine VC.of (fn:=Tryz.f127) tb_ok rfl (by kernel_rfl) rfl rfl ?_
  refine VSt.run tb_ok false [] 200 rfl trivial ?_
  first | refine VSt.splitO 14 rfl (fun g1=>?_) (fun g1=>?_) | refine VSt.splitD 14 rfl (fun g1=>?_) (fun g1=>?_)
  all_goals
   first
    | (
      have g1 : σ.found=true:=g1
      refine VSt.run tb_ok false [] 200 rfl ((by show inR (c+(flK s (s.copies.length+1) (Int.ofNat i)).getD 0);rw [efl];unfold inR;omega)) ?_
      refine VSt.cond rfl (fun g2=>?_) (fun g2=>?_)
      ·have g2:decide (c+(flK s (s.copies.length+1) (Int.ofNat i)).getD 0 > σ.cost)=true:=g2
       have hcut:cutB s i c σ = true:=by
        unfold cutB
        rw [g1,←efl,g2];rfl
       refine VSt.run tb_ok false [] 200 rfl trivial ?_
       rw [stepS_cut hcut]
       exact ⟨rfl,_,[(0,0),(1,1),(2,2),(3,3),(4,4),(5,5),(6,6),(7,7),(8,8)],_,_,rfl,⟨rfl,rfl,wf_imp rfl rfl (AImp.refl _) wf_nil,_,rfl,LImp.refl _⟩,rfl,rfl⟩
      have g2:decide (c+(flK s (s.copies.length+1) (Int.ofNat i)).getD 0 > σ.cost)=false:=g2
      have hcut:cutB s i c σ = false:=by
       unfold cutB
       rw [g1,←efl,g2];rfl
      refine VSt.run tb_ok false [] 200 rfl trivial ?_
      refine VSt.viewC (Wk.vw (ps:=[(0,0),(1,1),(2,2),(3,3),(4,4),(5,5),(6,6),(7,7),(8,8)]) (F0:=[(0,nv i),(1,iv c),(2,bv rt),(3,.ref 6 0),(4,.ref 2 0),(5,.ref 1 0),(6,.ref 5 0),(7,.ref 7 0),(29,bv (Int.ofNat i==Int.ofNat s.copies.length))]) (L0:=SM s σ) ⟨rfl,rfl,(by repeat (first | exact wf_nil | refine wf_back rfl rfl rfl ?_)),_,rfl,LImp.refl _⟩) ?_
     )
    | (
      have g1 : σ.found=false:=g1
      have hcut:cutB s i c σ = false:=by
       unfold cutB
       rw [g1];rfl
      refine VSt.run tb_ok false [] 200 rfl trivial ?_
      refine VSt.viewC (Wk.vw (ps:=[(0,0),(1,1),(2,2),(3,3),(4,4),(5,5),(6,6),(7,7),(8,8)]) (F0:=[(0,nv i),(1,iv c),(2,bv rt),(3,.ref 6 0),(4,.ref 2 0),(5,.ref 1 0),(6,.ref 5 0),(7,.ref 7 0),(29,bv (Int.ofNat i==Int.ofNat s.copies.length))]) (L0:=SM s σ) ⟨rfl,rfl,(by repeat (first | exact wf_nil | refine wf_back rfl rfl rfl ?_)),_,rfl,LImp.refl _⟩) ?_
     )
  all_goals
   refine VSt.cond rfl (fun h=>absurd (Int.ofNat_inj.1 (eq_of_beq h)) (by omega)) (fun _=>?_)
   refine VSt.run tb_ok false [] 200 rfl trivial ?_
   refine VSt.cond rfl (fun h1=>?_) (fun h1=>?_)
  all_goals
   have i1:inR (Int.ofNat i+1):=by unfold inR;simp only [Int.ofNat_eq_natCast];omega
   first
    | (
      have h2:(!rt)=true:=h1
      have hr0:rt=false:=by simpa using h2
      refine VSt.run tb_ok false [] 200 rfl (⟨hi,rfl,(show 0+i<s.copies.length by omega),rfl,Nat.le_refl _,i1⟩) ?_
      refine VSt.viewO (Wk.vw (ps:=[(0,0),(1,1),(2,2),(3,3),(4,4),(5,5),(6,6),(7,7),(8,8)]) (F0:=[(0,nv i),(1,iv c),(2,bv rt),(3,.ref 6 0),(4,.ref 2 0),(5,.ref 1 0),(6,.ref 5 0),(7,.ref 7 0),(66,stepF),(68,nv (i+1)),(69,iv c)]) (L0:=SM s (σ.set i (-1))) ⟨rfl,rfl,wf_back rfl rfl rfl (wf_back rfl rfl rfl (wf_back rfl rfl rfl (wf_back rfl rfl rfl (wf_back rfl rfl rfl (wf_back rfl rfl rfl (wf_back rfl rfl rfl (wf_back rfl rfl rfl (wf_back rfl rfl rfl (wf_imp rfl rfl (iv_nv (by simp only [Int.ofNat_eq_natCast];omega)) (wf_back rfl rfl rfl wf_nil)))))))))),_,rfl,SM_set (fun q _=>set_cell _ _ _ q)⟩) ?_
      refine VSt.cg [(0,0),(1,1),(2,2),(3,3),(4,4),(5,5),(6,6),(7,7),(8,8)] rfl rfl rfl rfl rfl rfl rfl rfl rfl rfl rfl rfl (ih (i+1) c true (σ.set i (-1)) (by omega) (hP.root (by omega)) (by omega) (fun _=>by omega) (by have hb2:=hb;rw [manyW,hr0] at hb2;have h3 : σ.least.length+((manyW s.copies.length k true)+s.copies.length*manyW s.copies.length k false)≤1000000:=hb2;show σ.least.length+_≤_;omega)) ?_
      rintro a L' ⟨rfl,rfl⟩
      refine VSt.run tb_ok false [] 200 rfl trivial ?_
      have hl:∃ σ1,stepS s (k+1) i c rt σ = loopS s i c (fun c' σ'=>stepS s k (i+1) c' rt σ') s.copies.length σ1∧PInv s i σ1∧σ1=stepS s k (i+1) c true (σ.set i (-1)) :=
       ⟨_,by rw [stepS,hcut,hr0];rfl,hP.keep (Keeps.set (stepS_keeps s k (i+1) c true _)),rfl⟩
      refine Exists.elim hl fun σ1 hl1=>?_
      refine VSt.viewC (Wk.vw (ps:=[(0,0),(1,1),(2,2),(3,3),(4,4),(5,5),(6,6),(7,7),(8,8)]) (F0:=[(0,nv i),(1,iv c),(2,bv rt),(3,.ref 6 0),(4,.ref 2 0),(5,.ref 1 0),(6,.ref 5 0),(7,.ref 7 0),(75,.p (eCopies s.cn s.copies)),(76,nv s.copies.length),(77,nv 0)]) (L0:=SM s σ1) ⟨rfl,rfl,(by repeat (first | exact wf_nil | refine wf_back rfl rfl rfl ?_)),_,rfl,(by rw [hl1.2.2];exact LImp.refl _)⟩) ?_
      have e0:=hl1.1
      have hP1:=hl1.2.1
      have hb1 : σ1.least.length+s.copies.length*manyW s.copies.length k rt≤1000000:=by
       have h4:=stepS_many s k (i+1) c true (σ.set i (-1))
       rw [←hl1.2.2] at h4
       have h5:(σ.set i (-1)).least = σ.least:=rfl
       rw [h5] at h4
       have h3 : σ.least.length+((bif rt then 0 else manyW s.copies.length k true)+s.copies.length*manyW s.copies.length k rt)≤1000000:=hb
       rw [hr0] at h3 ⊢
       simp only [cond_false] at h3
       omega
     )
    | (
      have h2:(!rt)=false:=h1
      have hr0:rt=true:=by simpa using h2
      refine VSt.run tb_ok false [] 200 rfl trivial ?_
      have hl:∃ σ1,stepS s (k+1) i c rt σ = loopS s i c (fun c' σ'=>stepS s k (i+1) c' rt σ') s.copies.length σ1∧PInv s i σ1∧σ1 = σ :=
       ⟨_,by rw [stepS,hcut,hr0];rfl,hP,rfl⟩
      refine Exists.elim hl fun σ1 hl1=>?_
      refine VSt.viewC (Wk.vw (ps:=[(0,0),(1,1),(2,2),(3,3),(4,4),(5,5),(6,6),(7,7),(8,8)]) (F0:=[(0,nv i),(1,iv c),(2,bv rt),(3,.ref 6 0),(4,.ref 2 0),(5,.ref 1 0),(6,.ref 5 0),(7,.ref 7 0),(75,.p (eCopies s.cn s.copies)),(76,nv s.copies.length),(77,nv 0)]) (L0:=SM s σ1) ⟨rfl,rfl,(by repeat (first | exact wf_nil | refine wf_back rfl rfl rfl ?_)),_,rfl,(by rw [hl1.2.2];exact LImp.refl _)⟩) ?_
      have e0:=hl1.1
      have hP1:=hl1.2.1
      have hb1 : σ1.least.length+s.copies.length*manyW s.copies.length k rt≤1000000:=by
       have h3 : σ.least.length+((bif rt then 0 else manyW s.copies.length k true)+s.copies.length*manyW s.copies.length k rt)≤1000000:=hb
       rw [hl1.2.2]
       rw [hr0] at h3 ⊢
       simp only [cond_true] at h3
       omega
     )
  all_goals
   refine VSt.rangeF tb_ok s.copies.length (by omega) (fun _=>[(0,nv i),(1,iv c),(2,bv rt),(3,.ref 6 0),(4,.ref 2 0),(5,.ref 1 0),(6,.ref 5 0),(7,.ref 7 0),(75,.p (eCopies s.cn s.copies))]) (fun j=>SM s (loopS s i c (fun c' σ'=>stepS s k (i+1) c' rt σ') j σ1)) (fun j=>PInv s i (loopS s i c (fun c' σ'=>stepS s k (i+1) c' rt σ') j σ1)) rfl rfl (fun _=>rfl) ?_ hP1 (fun j hj hPj=>?_) (fun hPn=>?_)
   ·(refine Vw.sub' (subK (by repeat (first | exact sk_nil | refine sk_cons rfl ?_))))
   ·have hcb:=cellM_bd hv (i:=j) (k:=i) hj
    have same:∀ b,((!(cellM s j i == -1)) && !closesB (loopS s i c (fun c' σ'=>stepS s k (i+1) c' rt σ') j σ1).par i j)=b→b=false→loopS s i c (fun c' σ'=>stepS s k (i+1) c' rt σ') (j+1) σ1=loopS s i c (fun c' σ'=>stepS s k (i+1) c' rt σ') j σ1:=fun b h hb=>by
     rw [loopS,h,hb];rfl
    refine VSt.run tb_ok false [] 200 rfl (⟨hj,rfl,hi,rfl⟩) ?_
    first | refine VSt.splitO 92 rfl (fun a1=>?_) (fun a1=>?_) | refine VSt.splitD 92 rfl (fun a1=>?_) (fun a1=>?_)
    ·have a1:(!(cellM s j i == -1))=true:=a1
     refine VSt.run tb_ok false [] 200 rfl trivial ?_
     refine Exists.elim (hPj.ac j) fun r' hr'=>?_
     have ecl:closesB (loopS s i c (fun c' σ'=>stepS s k (i+1) c' rt σ') j σ1).par i j=(Int.ofNat r'==Int.ofNat i):=by unfold closesB;rw [hr']
     refine VSt.bcall (Vw.trans (Wk.vw (ps:=[(4,4)]) (F0:=[(93,.sl 4 1 0 s.copies.length s.copies.length 1),(94,nv i),(95,nv j)]) (L0:=[(4,.arr s.copies.length 1 (fun q=>[.int .i64 ((loopS s i c (fun c' σ'=>stepS s k (i+1) c' rt σ') j σ1).par q)]) 3)]) ⟨rfl,rfl,(by repeat (first | exact wf_nil | refine wf_back rfl rfl rfl ?_)),_,rfl,LImp.refl _⟩) (Vw.freeze 4 rfl rfl ⟨Nat.le_of_eq (Nat.zero_add _),Nat.le_refl _,rfl⟩)) rfl rfl rfl rfl rfl rfl rfl (closes_ok hr' (by omega)) rfl ?_
     refine VSt.run tb_ok false [] 200 rfl trivial ?_
     refine VSt.cond rfl (fun a2=>?_) (fun a2=>?_)
     ·have a2:(!(Int.ofNat r'==Int.ofNat i))=true:=a2
      have hcl:closesB (loopS s i c (fun c' σ'=>stepS s k (i+1) c' rt σ') j σ1).par i j=false:=by rw [ecl];simpa using a2
      have hce:cellM s j i≠-1:=by simpa using a1
      have hbj:((loopS s i c (fun c' σ'=>stepS s k (i+1) c' rt σ') j σ1).set i (Int.ofNat j)).least.length+manyW s.copies.length k rt≤1000000:=by
       have h4:=loopS_many (s:=s) (i:=i) (c:=c) (w:=manyW s.copies.length k rt) (fun c' σ'=>stepS_many s k (i+1) c' rt σ') j σ1
       have h5:(j+1)*manyW s.copies.length k rt≤s.copies.length*manyW s.copies.length k rt:=Nat.mul_le_mul_right _ hj
       rw [Nat.succ_mul] at h5
       show (loopS s i c (fun c' σ'=>stepS s k (i+1) c' rt σ') j σ1).least.length+_≤_
       omega
      have e1:loopS s i c (fun c' σ'=>stepS s k (i+1) c' rt σ') (j+1) σ1=stepS s k (i+1) (c+cellM s j i) rt ((loopS s i c (fun c' σ'=>stepS s k (i+1) c' rt σ') j σ1).set i (Int.ofNat j)):=by
       rw [loopS,a1,hcl];rfl
      refine VSt.run tb_ok false [] 200 rfl (⟨hi,rfl,(show 0+i<s.copies.length by omega),rfl,Nat.le_refl _,i1,(by show inR (c+cellM s j i);unfold inR;omega)⟩) ?_
      refine VSt.viewO (Wk.vw (ps:=[(0,0),(1,1),(2,2),(3,3),(4,4),(5,5),(6,6),(7,7),(8,8)]) (F0:=[(0,nv i),(1,iv c),(2,bv rt),(3,.ref 6 0),(4,.ref 2 0),(5,.ref 1 0),(6,.ref 5 0),(7,.ref 7 0),(75,.p (eCopies s.cn s.copies)),(76,nv s.copies.length),(77,nv j),(103,stepF),(105,nv (i+1)),(108,iv (c+cellM s j i)),(109,bv rt)]) (L0:=SM s ((loopS s i c (fun c' σ'=>stepS s k (i+1) c' rt σ') j σ1).set i (Int.ofNat j))) ⟨rfl,rfl,wf_back rfl rfl rfl (wf_back rfl rfl rfl (wf_back rfl rfl rfl (wf_back rfl rfl rfl (wf_back rfl rfl rfl (wf_back rfl rfl rfl (wf_back rfl rfl rfl (wf_back rfl rfl rfl (wf_back rfl rfl rfl (wf_back rfl rfl rfl (wf_back rfl rfl rfl (wf_back rfl rfl rfl (wf_imp rfl rfl (iv_nv (by simp only [Int.ofNat_eq_natCast];omega)) (wf_back rfl rfl rfl (wf_back rfl rfl rfl wf_nil)))))))))))))),_,rfl,SM_set (fun q _=>set_cell _ _ _ q)⟩) ?_
      refine VSt.cg [(0,0),(1,1),(2,2),(3,3),(4,4),(5,5),(6,6),(7,7),(8,8)] rfl rfl rfl rfl rfl rfl rfl rfl rfl rfl rfl rfl (ih (i+1) (c+cellM s j i) rt _ (by omega) (hPj.set hj hcl) (by omega) hrt hbj) ?_
      rintro a L' ⟨rfl,rfl⟩
      refine VSt.run tb_ok false [] 200 rfl trivial ?_
      refine ⟨?_,?_⟩
      ·dsimp only
       rw [e1]
       exact Wk.vw (ps:=[(0,0),(1,1),(2,2),(3,3),(4,4),(5,5),(6,6),(7,7),(8,8)]) ⟨rfl,rfl,(by repeat (first | exact wf_nil | refine wf_back rfl rfl rfl ?_)),_,rfl,LImp.refl _⟩
      ·rw [e1]
       exact hPj.keep (Keeps.set (stepS_keeps s k (i+1) _ rt _))
     ·have a2:(!(Int.ofNat r'==Int.ofNat i))=false:=a2
      have e1:=same _ rfl (by rw [ecl,a2,Bool.and_false])
      refine VSt.run tb_ok false [] 200 rfl trivial ?_
      refine ⟨?_,?_⟩
      ·dsimp only
       rw [e1]
       exact Wk.vw (ps:=[(0,0),(1,1),(2,2),(3,3),(4,4),(5,5),(6,6),(7,7),(8,8)]) ⟨rfl,rfl,(by repeat (first | exact wf_nil | refine wf_back rfl rfl rfl ?_)),_,rfl,LImp.refl _⟩
      ·rw [e1];exact hPj
    ·have a1:(!(cellM s j i == -1))=false:=a1
     have e1:=same _ rfl (by rw [a1,Bool.false_and])
     refine VSt.run tb_ok false [] 200 rfl trivial ?_
     refine ⟨?_,?_⟩
     ·dsimp only
      rw [e1]
      exact Wk.vw (ps:=[(0,0),(1,1),(2,2),(3,3),(4,4),(5,5),(6,6),(7,7),(8,8)]) ⟨rfl,rfl,(by repeat (first | exact wf_nil | refine wf_back rfl rfl rfl ?_)),_,rfl,LImp.refl _⟩
     ·rw [e1];exact hPj
   ·refine VSt.run tb_ok false [] 200 rfl trivial ?_
    exact ⟨rfl,_,[(0,0),(1,1),(2,2),(3,3),(4,4),(5,5),(6,6),(7,7),(8,8)],_,_,rfl,⟨rfl,rfl,wf_imp rfl rfl (AImp.refl _) wf_nil,_,rfl,LImp.refl _⟩,rfl,by rw [e0];rfl⟩
end Go.Proofs.YtncpeobcgmkkbaaGreat
