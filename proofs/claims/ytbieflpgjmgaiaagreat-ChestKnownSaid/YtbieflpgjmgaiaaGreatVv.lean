/- The program's ChestKnown returns true for all numbers without an exception and without changing its arguments: a part of the proof. -/
import Derived.Test.YtbieflpgjmgaiaaGreatVr
import Derived.Test.YtbieflpgjmgaiaaGreatVu
import Derived.Test.YtbieflpgjmgaiaaGreatVe
import Derived.Test.YtbieflpgjmgaiaaGreatVs
set_option linter.all false
/- Walks: Compact of ints, every cell an int. -/
set_option maxRecDepth 100000
namespace Go.Proofs.YtbieflpgjmgaiaaGreat
variable {r:Rm}
theorem bif_int {b:Bool} {x y:Int}:(bif b then [PV.int .i64 x] else [PV.int .i64 y])=[PV.int .i64 (bif b then x else y)]:=by cases b <;> rfl
set_option maxHeartbeats 4000000 in
theorem CompactI_ok {n:Nat} {f:Nat→Int} (hn0:0<n) (hn:n≤1000000):VC (sE r) [0] 83 [.sl 0 1 0 n n 0] [(0,.arr n 1 (fInts f) 3)]
  (fun a L=>∃ g:Nat→Int,a = .sl 0 1 0 (ded f n).length n 0∧L=[(0,.arr n 1 (fInts g) 3)]∧∀ k,k<(ded f n).length→g k=(ded f n).getD k 0):=by
 refine VC.of (fn:=Tryz.f83) tb_ok (wk_ok rfl) (by kernel_rfl) rfl rfl ?_
 have whole:(∀ i,0<i→i<n→f i≠f (i - 1))→(ded f n).length=n∧∀ k,k<n→f k=(ded f n).getD k 0:=fun h=>by
  have e:=ded_all h
  refine ⟨by rw [e,List.length_map,List.length_range],fun k hk=>?_⟩
  rw [e,map_at hk]
 refine VSt.go tb_ok false [] 200 rfl AllP.n ?_
 refine VSt.cond rfl (fun h1=>?_) (fun h1=>?_)
 ·have h1:n=1:=by have:=of_decide_eq_true h1;simp only [Int.ofNat_eq_natCast] at this;omega
  have hw:=whole (fun i hi h=>by omega)
  refine VSt.go tb_ok false [] 200 rfl AllP.n ?_
  exact ⟨rfl,_,[(0,0)],.sl 0 1 0 (ded f n).length n 0,_,rfl,⟨rfl,rfl,wf_imp rfl rfl (AImp.slE hw.1.symm rfl) wf_nil,_,rfl,LImp.refl _⟩,f,rfl,rfl,fun k hk=>hw.2 k (by omega)⟩
 have h1:2≤n:=by have:=of_decide_eq_false h1;simp only [Int.ofNat_eq_natCast] at this;omega
 refine VSt.go tb_ok false [] 200 rfl AllP.n ?_
 refine VSt.loop (α :=Nat) (fun k F L=>1≤k∧k≤n∧(∀ i,0<i→i<k→f i≠f (i - 1))∧F=[(0,.sl 0 1 0 n n 0),(3,nv k)]∧L=[(0,.arr n 1 (fInts f) 3)]) (fun k=>n - k) 1 (by (refine Vw.sub' (subK (by repeat (first | exact sk_nil | refine sk_cons rfl ?_))))) ⟨Nat.le_refl _,by omega,fun i h2 h3=>by omega,rfl,rfl⟩ ?_
 rintro k F L ⟨hk1,hkn,hd,rfl,rfl⟩
 refine VSt.go tb_ok false [] 200 rfl AllP.n ?_
 refine VSt.cond rfl (fun g1=>?_) (fun g1=>?_)
 ·have g1:k<n:=by have:=of_decide_eq_true g1;simp only [Int.ofNat_eq_natCast] at this;omega
  refine VSt.go tb_ok false [23] 200 rfl (AllP.c ‹_› (AllP.c rfl (AllP.c (by omega) (AllP.c rfl (AllP.c (by unfold inR;(try simp only [Int.ofNat_eq_natCast]);omega) AllP.n))))) ?_
  refine VSt.putD 22 (nv (k - 1)) rfl (iv_nv (by simp only [Int.ofNat_eq_natCast];omega)) ?_
  refine VSt.go tb_ok false [] 200 rfl (AllP.c (by omega) (AllP.c rfl (AllP.c (by omega) (AllP.c rfl AllP.n)))) ?_
  refine VSt.cond rfl (fun g2=>?_) (fun g2=>?_)
  ·have g2:f k=f (k - 1):=by
    have g2:(f (0+k)==f (0+(k - 1)))=true:=g2
    rw [Nat.zero_add,Nat.zero_add] at g2
    simpa using g2
   have e1:=ded_all hd
   have e2:=ded_skip (f:=f) hk1 g2
   refine VSt.go tb_ok false [] 200 rfl (AllP.c ‹_› (AllP.c (by omega) (AllP.c (by omega) (AllP.c rfl AllP.n)))) ?_
   refine VSt.loop (α :=Nat×Nat×(Nat→Int)) (fun x F L=>CmpInv f n k x.1 x.2.1 x.2.2∧F=[(0,.sl 0 1 0 n n 0),(3,nv x.2.1),(4,.sl 0 1 k (n - k) (n - k) 0),(5,nv x.1)]∧L=[(0,.arr n 1 (fInts x.2.2) 3)]) (fun x=>n - k - x.1) (1,k,f) (?_) ⟨(show CmpInv f n k 1 k f from ⟨Nat.le_refl _,by omega,Nat.le_refl _,by omega,fun _ _=>rfl,by rw [e2,e1,List.length_map,List.length_range],fun i hi=>by rw [e2,e1,map_at hi]⟩),rfl,rfl⟩ ?_
   ·exact Wk.vw (ps:=[(0,0)]) ⟨rfl,rfl,wf_back rfl rfl rfl (wf_back rfl rfl rfl (wf_imp rfl rfl (AImp.of_eq (by show AV.sl 0 1 (0+k) _ _ 0=_;rw [Nat.zero_add])) (wf_back rfl rfl rfl wf_nil))),_,rfl,LImp.refl _⟩
   intro x F L hx
   obtain ⟨hI,rfl,rfl⟩:=hx
   have i1:=hI.j1
   have i2:=hI.jn
   have i3:=hI.km
   have i4:=hI.mj
   have r1:=hI.rest (k+x.1) (by omega)
   have r2:=hI.rest (k+(x.1 - 1)) (by omega)
   have r3:k+(x.1 - 1)=k+x.1 - 1:=by omega
   refine VSt.go tb_ok false [] 200 rfl AllP.n ?_
   refine VSt.cond rfl (fun g3=>?_) (fun g3=>?_)
   ·have g3:x.1<n - k:=by have:=of_decide_eq_true g3;simp only [Int.ofNat_eq_natCast] at this;omega
    refine VSt.go tb_ok false [42] 200 rfl (AllP.c ‹_› (AllP.c rfl (AllP.c (by omega) (AllP.c rfl (AllP.c (by unfold inR;(try simp only [Int.ofNat_eq_natCast]);omega) AllP.n))))) ?_
    refine VSt.putD 41 (nv (x.1 - 1)) rfl (iv_nv (by simp only [Int.ofNat_eq_natCast];omega)) ?_
    refine VSt.go tb_ok false [] 200 rfl (AllP.c (by omega) (AllP.c rfl (AllP.c (by omega) (AllP.c rfl AllP.n)))) ?_
    refine VSt.cond rfl (fun g4=>?_) (fun g4=>?_)
    ·have g4:f (k+x.1)≠f (k+x.1 - 1):=by
      have g4:(!(x.2.2 (k+x.1)==x.2.2 (k+(x.1 - 1))))=true:=g4
      rw [r1,r2,r3] at g4
      simpa using g4
     have e3:ded f (k+(x.1+1))=ded f (k+x.1)++[f (k+x.1)]:=ded_add (k:=k+x.1) (fun _=>g4)
     refine VSt.go tb_ok false [] 200 rfl (AllP.c ‹_› (AllP.c rfl (AllP.c (by omega) (AllP.c rfl (AllP.c (by omega) (AllP.c rfl (AllP.c (by omega) (AllP.c rfl (AllP.c (Nat.le_refl _) (AllP.c (by unfold inR;(try simp only [Int.ofNat_eq_natCast]);omega) (AllP.c (by unfold inR;(try simp only [Int.ofNat_eq_natCast]);omega) AllP.n))))))))))) ?_
     refine ⟨(x.1+1,x.2.1+1,setP x.2.2 x.2.1 (f (k+x.1))),_,_,Wk.vw (ps:=[(0,0)]) (F0:=[(0,.sl 0 1 0 n n 0),(3,nv (x.2.1+1)),(4,.sl 0 1 k (n - k) (n - k) 0),(5,nv (x.1+1))]) (L0:=[(0,.arr n 1 (fInts (setP x.2.2 x.2.1 (f (k+x.1)))) 3)]) ⟨rfl,rfl,(by repeat (first | exact wf_nil | refine wf_back rfl rfl rfl ?_)),_,rfl,⟨rfl,BImp.arr' rfl (fun q _=>by rw [←r1];exact set_cell _ _ _ q),trivial⟩⟩,⟨(show CmpInv f n k (x.1+1) (x.2.1+1) (setP x.2.2 x.2.1 (f (k+x.1))) from ⟨by omega,by omega,by omega,by omega,fun i hi=>?_,?_,fun i hi=>?_⟩),rfl,rfl⟩,by show n - k - (x.1+1)<n - k - x.1;omega⟩
     ·have hi:x.2.1+1≤i:=hi
      show setP _ _ _ i=_
      rw [setP_ne (by omega)]
      exact hI.rest i (by omega)
     ·show (ded f (k+(x.1+1))).length=x.2.1+1
      rw [e3,List.length_append,hI.len];rfl
     ·have hi:i<x.2.1+1:=hi
      show setP x.2.2 x.2.1 _ i=(ded f (k+(x.1+1))).getD i 0
      rw [e3,List.getD_eq_getElem?_getD]
      by_cases e:i=x.2.1
      ·subst e
       rw [setP_eq,List.getElem?_append_right (by rw [hI.len];exact Nat.le_refl _),hI.len,Nat.sub_self];rfl
      ·rw [setP_ne e,List.getElem?_append_left (by rw [hI.len];omega),←List.getD_eq_getElem?_getD]
       exact hI.done i (by omega)
    ·have g4:f (k+x.1)=f (k+x.1 - 1):=by
      have g4:(!(x.2.2 (k+x.1)==x.2.2 (k+(x.1 - 1))))=false:=g4
      rw [r1,r2,r3] at g4
      simpa using g4
     have e3:ded f (k+(x.1+1))=ded f (k+x.1):=ded_skip (k:=k+x.1) (by omega) g4
     refine VSt.go tb_ok false [] 200 rfl (AllP.c (by unfold inR;(try simp only [Int.ofNat_eq_natCast]);omega) AllP.n) ?_
     refine ⟨(x.1+1,x.2.1,x.2.2),_,_,(by (refine Vw.sub' (subK (by repeat (first | exact sk_nil | refine sk_cons rfl ?_))))),⟨(show CmpInv f n k (x.1+1) x.2.1 x.2.2 from ⟨by omega,by omega,by omega,by omega,hI.rest,?_,?_⟩),rfl,rfl⟩,by show n - k - (x.1+1)<n - k - x.1;omega⟩
     ·show (ded f (k+(x.1+1))).length=x.2.1
      rw [e3];exact hI.len
     ·show ∀ i,i<x.2.1→x.2.2 i=(ded f (k+(x.1+1))).getD i 0
      rw [e3];exact hI.done
   ·have g3:x.1=n - k:=by have:=of_decide_eq_false g3;simp only [Int.ofNat_eq_natCast] at this;omega
    have e3:k+x.1=n:=by omega
    have h4:=hI.len
    rw [e3] at h4
    have h5:=hI.done
    rw [e3] at h5
    refine VSt.go tb_ok false [] 200 rfl (AllP.c (by omega) (AllP.c (by omega) (AllP.c (by omega) (AllP.c rfl (AllP.c (by omega) (AllP.c rfl (AllP.c rfl (AllP.c (by omega) (AllP.c (by omega) (AllP.c (by omega) (AllP.c rfl AllP.n))))))))))) ?_
    refine ⟨rfl,_,[(0,0)],.sl 0 1 0 (ded f n).length n 0,[(0,.arr n 1 (fInts fun q=>bif Nat.ble (0+x.2.1) q&&Nat.blt q (0+x.2.1+(n - x.2.1)) then 0 else x.2.2 q) 3)],rfl,⟨rfl,rfl,wf_imp rfl rfl (AImp.slE h4.symm rfl) wf_nil,_,rfl,⟨rfl,BImp.arr (fun q _=>bif_int),trivial⟩⟩,_,rfl,rfl,fun q hq=>?_⟩
    have hq:q<x.2.1:=by omega
    have hb:Nat.ble (0+x.2.1) q=false:=by
     rw [Nat.zero_add,←Bool.not_eq_true]
     intro h
     have:=Nat.le_of_ble_eq_true h
     omega
    show (bif Nat.ble (0+x.2.1) q&&_ then _ else _)=_
    rw [hb]
    show x.2.2 q=_
    exact h5 q hq
  ·have g2:f k≠f (k - 1):=by
    have g2:(f (0+k)==f (0+(k - 1)))=false:=g2
    rw [Nat.zero_add,Nat.zero_add] at g2
    simpa using g2
   refine VSt.go tb_ok false [] 200 rfl (AllP.c (by unfold inR;(try simp only [Int.ofNat_eq_natCast]);omega) AllP.n) ?_
   exact ⟨k+1,_,_,(by (refine Vw.sub' (subK (by repeat (first | exact sk_nil | refine sk_cons rfl ?_))))),⟨by omega,g1,fun i h2 h3=>by
    by_cases e:i=k
    ·subst e;exact g2
    ·exact hd i h2 (by omega),rfl,rfl⟩,by show n - (k+1)<n - k;omega⟩
 ·have g1:k=n:=by have:=of_decide_eq_false g1;simp only [Int.ofNat_eq_natCast] at this;omega
  subst g1
  have hw:=whole hd
  refine VSt.go tb_ok false [] 200 rfl AllP.n ?_
  exact ⟨rfl,_,[(0,0)],.sl 0 1 0 (ded f k).length k 0,_,rfl,⟨rfl,rfl,wf_imp rfl rfl (AImp.slE hw.1.symm rfl) wf_nil,_,rfl,LImp.refl _⟩,f,rfl,rfl,fun k hk=>hw.2 k (by omega)⟩
end Go.Proofs.YtbieflpgjmgaiaaGreat
/- Walks: the library's Concat of ints; the papers that openings name. -/
set_option maxRecDepth 100000
namespace Go.Proofs.YtbieflpgjmgaiaaGreat
variable {r:Rm}
def eRows (bs:Nat→Bool) (ls:Nat→List Int):PV:=.lst 32 false 3 fun k=>[eInts (bs k) (ls k)]
def row3B (a b c:Bool):Nat→Bool
 | 0=>a
 | 1=>b
 | _=>c
def row3L (x y z:List Int):Nat→List Int
 | 0=>x
 | 1=>y
 | _=>z
theorem lit3 {a b c:Bool} {x y z:List Int}:AImp (.p (.lst 32 false 3 fun k=>List.take 1 (List.drop (k*1) [eInts a x,eInts b y,eInts c z]))) (.p (eRows (row3B a b c) (row3L x y z))):=AImp.lst fun k hk=>match k,hk with
 | 0,_=>rfl
 | 1,_=>rfl
 | 2,_=>rfl
end Go.Proofs.YtbieflpgjmgaiaaGreat
/- Walks: Papers, the program's and the reference's. -/
set_option maxRecDepth 100000
namespace Go.Proofs.YtbieflpgjmgaiaaGreat
open Kuhn
variable {r:Rm}
theorem AImp.litC {b:Bool}:AImp (.lit b) (bv b):=fun _ _ _ _ _ h=>by
 cases h;exact .p (.bool _)
theorem setL_nil:setL []=[]:=rfl
theorem setL_pos {Z:List Int} (h:0<Z.length):(setL Z).isEmpty=false:=by
 have:0<(setL Z).length:=ded_pos _ h
 cases e:setL Z with
 | nil=>rw [e] at this;exact absurd this (by decide)
 | cons=>rfl
structure PutOk (l:List Int) (x:Int) (k:Nat) (st:List Int×Bool):Prop where
 rise:st.1.Pairwise (· < ·)
 mem:∀ y,y∈st.1 ↔ (y∈l.take k∨(st.2=true∧y=x))
 no:st.2=false→∀ y,y∈l.take k→y<x
 yes:st.2=true→∃ y,y∈l.take k∧x≤y
end Go.Proofs.YtbieflpgjmgaiaaGreat
