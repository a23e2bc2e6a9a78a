/- The program's ChestLists returns true for all openings, numbers and days, valid or not, without an exception and without changing its arguments: a part of the proof. -/
import Derived.Test.YtbieflpgjmgaiaaGreatVr
import Derived.Test.YtbieflpgjmgaiaaGreatVu
import Derived.Test.YtbieflpgjmgaiaaGreatVe
import Derived.Test.YtbieflpgjmgaiaaGreatVs
set_option linter.all false
/- Walks: Compact of ints, every cell an int. -/
set_option maxRecDepth 100000
namespace Go.Proofs.YtbieflpgjmgaiaaGreat
variable {r:Rm}
theorem bif_int {b:Bool} {x y:Int}:(bif b then [PV.int .i64 x] else [PV.int .i64 y])=[PV.int .i64 (bif b then x else y)]:=by cases b <;> rfl
set_option maxHeartbeats 4000000 in
theorem CompactI_ok {n:Nat} {f:Nat→Int} (hn0:0<n) (hn:n≤1000000):VC (sE r) [0] 83 [.sl 0 1 0 n n 0] [(0,.arr n 1 (fInts f) 3)]
  (fun a L=>∃ g:Nat→Int,a = .sl 0 1 0 (ded f n).length n 0∧L=[(0,.arr n 1 (fInts g) 3)]∧∀ k,k<(ded f n).length→g k=(ded f n).getD k 0):=by
 refine VC.of (fn:=Tryz.f83) tb_ok (wk_ok rfl) (by kernel_rfl) rfl rfl ?_
 have whole:(∀ i,0<i→i<n→f i≠f (i - 1))→(ded f n).length=n∧∀ k,k<n→f k=(ded f n).getD k 0:=fun h=>by
  have e:=ded_all h
  refine ⟨by rw [e,List.length_map,List.length_range],fun k hk=>?_⟩
  rw [e,map_at hk]
 refine VSt.go tb_ok false [] 200 rfl AllP.n ?_
 refine VSt.cond rfl (fun h1=>?_) (fun h1=>?_)
 ·have h1:n=1:=by have:=of_decide_eq_true h1;simp only [Int.ofNat_eq_natCast] at this;omega
  have hw:=whole (fun i hi h=>by omega)
  refine VSt.go tb_ok false [] 200 rfl AllP.n ?_
  exact ⟨rfl,_,[(0,0)],.sl 0 1 0 (ded f n).length n 0,_,rfl,⟨rfl,rfl,wf_imp rfl rfl (AImp.slE hw.1.symm rfl) wf_nil,_,rfl,LImp.refl _⟩,f,rfl,rfl,fun k hk=>hw.2 k (by omega)⟩
 have h1:2≤n:=by have:=of_decide_eq_false h1;simp only [Int.ofNat_eq_natCast] at this;omega
 refine VSt.go tb_ok false [] 200 rfl AllP.n ?_
 refine VSt.loop (α :=Nat) (fun k F L=>1≤k∧k≤n∧(∀ i,0<i→i<k→f i≠f (i - 1))∧F=[(0,.sl 0 1 0 n n 0),(3,nv k)]∧L=[(0,.arr n 1 (fInts f) 3)]) (fun k=>n - k) 1 (by (refine Vw.sub' (subK (by repeat (first | exact sk_nil | refine sk_cons rfl ?_))))) ⟨Nat.le_refl _,by omega,fun i h2 h3=>by omega,rfl,rfl⟩ ?_
 rintro k F L ⟨hk1,hkn,hd,rfl,rfl⟩
 refine VSt.go tb_ok false [] 200 rfl AllP.n ?_
 refine VSt.cond rfl (fun g1=>?_) (fun g1=>?_)
 ·have g1:k<n:=by have:=of_decide_eq_true g1;simp only [Int.ofNat_eq_natCast] at this;omega
  refine VSt.go tb_ok false [23] 200 rfl (AllP.c ‹_› (AllP.c rfl (AllP.c (by omega) (AllP.c rfl (AllP.c (by unfold inR;(try simp only [Int.ofNat_eq_natCast]);omega) AllP.n))))) ?_
  refine VSt.putD 22 (nv (k - 1)) rfl (iv_nv (by simp only [Int.ofNat_eq_natCast];omega)) ?_
  refine VSt.go tb_ok false [] 200 rfl (AllP.c (by omega) (AllP.c rfl (AllP.c (by omega) (AllP.c rfl AllP.n)))) ?_
  refine VSt.cond rfl (fun g2=>?_) (fun g2=>?_)
  ·have g2:f k=f (k - 1):=by
    have g2:(f (0+k)==f (0+(k - 1)))=true:=g2
    rw [Nat.zero_add,Nat.zero_add] at g2
    simpa using g2
   have e1:=ded_all hd
   have e2:=ded_skip (f:=f) hk1 g2
   refine VSt.go tb_ok false [] 200 rfl (AllP.c ‹_› (AllP.c (by omega) (AllP.c (by omega) (AllP.c rfl AllP.n)))) ?_
   refine VSt.loop (α :=Nat×Nat×(Nat→Int)) (fun x F L=>CmpInv f n k x.1 x.2.1 x.2.2∧F=[(0,.sl 0 1 0 n n 0),(3,nv x.2.1),(4,.sl 0 1 k (n - k) (n - k) 0),(5,nv x.1)]∧L=[(0,.arr n 1 (fInts x.2.2) 3)]) (fun x=>n - k - x.1) (1,k,f) (?_) ⟨(show CmpInv f n k 1 k f from ⟨Nat.le_refl _,by omega,Nat.le_refl _,by omega,fun _ _=>rfl,by rw [e2,e1,List.length_map,List.length_range],fun i hi=>by rw [e2,e1,map_at hi]⟩),rfl,rfl⟩ ?_
   ·exact Wk.vw (ps:=[(0,0)]) ⟨rfl,rfl,wf_back rfl rfl rfl (wf_back rfl rfl rfl (wf_imp rfl rfl (AImp.of_eq (by show AV.sl 0 1 (0+k) _ _ 0=_;rw [Nat.zero_add])) (wf_back rfl rfl rfl wf_nil))),_,rfl,LImp.refl _⟩
   intro x F L hx
   obtain ⟨hI,rfl,rfl⟩:=hx
   have i1:=hI.j1
   have i2:=hI.jn
   have i3:=hI.km
   have i4:=hI.mj
   have r1:=hI.rest (k+x.1) (by omega)
   have r2:=hI.rest (k+(x.1 - 1)) (by omega)
   have r3:k+(x.1 - 1)=k+x.1 - 1:=by omega
   refine VSt.go tb_ok false [] 200 rfl AllP.n ?_
   refine VSt.cond rfl (fun g3=>?_) (fun g3=>?_)
   ·have g3:x.1<n - k:=by have:=of_decide_eq_true g3;simp only [Int.ofNat_eq_natCast] at this;omega
    refine VSt.go tb_ok false [42] 200 rfl (AllP.c ‹_› (AllP.c rfl (AllP.c (by omega) (AllP.c rfl (AllP.c (by unfold inR;(try simp only [Int.ofNat_eq_natCast]);omega) AllP.n))))) ?_
    refine VSt.putD 41 (nv (x.1 - 1)) rfl (iv_nv (by simp only [Int.ofNat_eq_natCast];omega)) ?_
    refine VSt.go tb_ok false [] 200 rfl (AllP.c (by omega) (AllP.c rfl (AllP.c (by omega) (AllP.c rfl AllP.n)))) ?_
    refine VSt.cond rfl (fun g4=>?_) (fun g4=>?_)
    ·have g4:f (k+x.1)≠f (k+x.1 - 1):=by
      have g4:(!(x.2.2 (k+x.1)==x.2.2 (k+(x.1 - 1))))=true:=g4
      rw [r1,r2,r3] at g4
      simpa using g4
     have e3:ded f (k+(x.1+1))=ded f (k+x.1)++[f (k+x.1)]:=ded_add (k:=k+x.1) (fun _=>g4)
     refine VSt.go tb_ok false [] 200 rfl (AllP.c ‹_› (AllP.c rfl (AllP.c (by omega) (AllP.c rfl (AllP.c (by omega) (AllP.c rfl (AllP.c (by omega) (AllP.c rfl (AllP.c (Nat.le_refl _) (AllP.c (by unfold inR;(try simp only [Int.ofNat_eq_natCast]);omega) (AllP.c (by unfold inR;(try simp only [Int.ofNat_eq_natCast]);omega) AllP.n))))))))))) ?_
     refine ⟨(x.1+1,x.2.1+1,setP x.2.2 x.2.1 (f (k+x.1))),_,_,Wk.vw (ps:=[(0,0)]) (F0:=[(0,.sl 0 1 0 n n 0),(3,nv (x.2.1+1)),(4,.sl 0 1 k (n - k) (n - k) 0),(5,nv (x.1+1))]) (L0:=[(0,.arr n 1 (fInts (setP x.2.2 x.2.1 (f (k+x.1)))) 3)]) ⟨rfl,rfl,(by repeat (first | exact wf_nil | refine wf_back rfl rfl rfl ?_)),_,rfl,⟨rfl,BImp.arr' rfl (fun q _=>by rw [←r1];exact set_cell _ _ _ q),trivial⟩⟩,⟨(show CmpInv f n k (x.1+1) (x.2.1+1) (setP x.2.2 x.2.1 (f (k+x.1))) from ⟨by omega,by omega,by omega,by omega,fun i hi=>?_,?_,fun i hi=>?_⟩),rfl,rfl⟩,by show n - k - (x.1+1)<n - k - x.1;omega⟩
     ·have hi:x.2.1+1≤i:=hi
      show setP _ _ _ i=_
      rw [setP_ne (by omega)]
      exact hI.rest i (by omega)
     ·show (ded f (k+(x.1+1))).length=x.2.1+1
      rw [e3,List.length_append,hI.len];rfl
     ·have hi:i<x.2.1+1:=hi
      show setP x.2.2 x.2.1 _ i=(ded f (k+(x.1+1))).getD i 0
      rw [e3,List.getD_eq_getElem?_getD]
      by_cases e:i=x.2.1
      ·subst e
       rw [setP_eq,List.getElem?_append_right (by rw [hI.len];exact Nat.le_refl _),hI.len,Nat.sub_self];rfl
      ·rw [setP_ne e,List.getElem?_append_left (by rw [hI.len];omega),←List.getD_eq_getElem?_getD]
       exact hI.done i (by omega)
    ·have g4:f (k+x.1)=f (k+x.1 - 1):=by
      have g4:(!(x.2.2 (k+x.1)==x.2.2 (k+(x.1 - 1))))=false:=g4
      rw [r1,r2,r3] at g4
      simpa using g4
     have e3:ded f (k+(x.1+1))=ded f (k+x.1):=ded_skip (k:=k+x.1) (by omega) g4
     refine VSt.go tb_ok false [] 200 rfl (AllP.c (by unfold inR;(try simp only [Int.ofNat_eq_natCast]);omega) AllP.n) ?_
     refine ⟨(x.1+1,x.2.1,x.2.2),_,_,(by (refine Vw.sub' (subK (by repeat (first | exact sk_nil | refine sk_cons rfl ?_))))),⟨(show CmpInv f n k (x.1+1) x.2.1 x.2.2 from ⟨by omega,by omega,by omega,by omega,hI.rest,?_,?_⟩),rfl,rfl⟩,by show n - k - (x.1+1)<n - k - x.1;omega⟩
     ·show (ded f (k+(x.1+1))).length=x.2.1
      rw [e3];exact hI.len
     ·show ∀ i,i<x.2.1→x.2.2 i=(ded f (k+(x.1+1))).getD i 0
      rw [e3];exact hI.done
   ·have g3:x.1=n - k:=by have:=of_decide_eq_false g3;simp only [Int.ofNat_eq_natCast] at this;omega
    have e3:k+x.1=n:=by omega
    have h4:=hI.len
    rw [e3] at h4
    have h5:=hI.done
    rw [e3] at h5
    refine VSt.go tb_ok false [] 200 rfl (AllP.c (by omega) (AllP.c (by omega) (AllP.c (by omega) (AllP.c rfl (AllP.c (by omega) (AllP.c rfl (AllP.c rfl (AllP.c (by omega) (AllP.c (by omega) (AllP.c (by omega) (AllP.c rfl AllP.n))))))))))) ?_
    refine ⟨rfl,_,[(0,0)],.sl 0 1 0 (ded f n).length n 0,[(0,.arr n 1 (fInts fun q=>bif Nat.ble (0+x.2.1) q&&Nat.blt q (0+x.2.1+(n - x.2.1)) then 0 else x.2.2 q) 3)],rfl,⟨rfl,rfl,wf_imp rfl rfl (AImp.slE h4.symm rfl) wf_nil,_,rfl,⟨rfl,BImp.arr (fun q _=>bif_int),trivial⟩⟩,_,rfl,rfl,fun q hq=>?_⟩
    have hq:q<x.2.1:=by omega
    have hb:Nat.ble (0+x.2.1) q=false:=by
     rw [Nat.zero_add,←Bool.not_eq_true]
     intro h
     have:=Nat.le_of_ble_eq_true h
     omega
    show (bif Nat.ble (0+x.2.1) q&&_ then _ else _)=_
    rw [hb]
    show x.2.2 q=_
    exact h5 q hq
  ·have g2:f k≠f (k - 1):=by
    have g2:(f (0+k)==f (0+(k - 1)))=false:=g2
    rw [Nat.zero_add,Nat.zero_add] at g2
    simpa using g2
   refine VSt.go tb_ok false [] 200 rfl (AllP.c (by unfold inR;(try simp only [Int.ofNat_eq_natCast]);omega) AllP.n) ?_
   exact ⟨k+1,_,_,(by (refine Vw.sub' (subK (by repeat (first | exact sk_nil | refine sk_cons rfl ?_))))),⟨by omega,g1,fun i h2 h3=>by
    by_cases e:i=k
    ·subst e;exact g2
    ·exact hd i h2 (by omega),rfl,rfl⟩,by show n - (k+1)<n - k;omega⟩
 ·have g1:k=n:=by have:=of_decide_eq_false g1;simp only [Int.ofNat_eq_natCast] at this;omega
  subst g1
  have hw:=whole hd
  refine VSt.go tb_ok false [] 200 rfl AllP.n ?_
  exact ⟨rfl,_,[(0,0)],.sl 0 1 0 (ded f k).length k 0,_,rfl,⟨rfl,rfl,wf_imp rfl rfl (AImp.slE hw.1.symm rfl) wf_nil,_,rfl,LImp.refl _⟩,f,rfl,rfl,fun k hk=>hw.2 k (by omega)⟩
end Go.Proofs.YtbieflpgjmgaiaaGreat
/- Walks: the library's Concat of ints; the papers that openings name. -/
set_option maxRecDepth 100000
namespace Go.Proofs.YtbieflpgjmgaiaaGreat
variable {r:Rm}
theorem grow0_ok:VP (sE r) 130 [.p (.lst 0 true 0 fun _=>[]),nv 0] (.p (.lst 0 true 0 fun _=>[])):=by
 refine VP.of (fn:=Tryz.f130) tb_ok (wk_ok rfl) (by kernel_rfl) rfl rfl rfl ?_
 refine VSt.go tb_ok false [] 200 rfl AllP.n ?_
 refine VSt.cond rfl (fun g=>absurd g (by decide)) (fun _=>?_)
 refine VSt.go tb_ok false [10] 200 rfl AllP.n ?_
 refine VSt.opA rfl rfl (PureA.capN tb_ok rfl rfl rfl rfl) ?_
 refine VSt.go tb_ok false [] 200 rfl (AllP.c (by unfold inR;(try simp only [Int.ofNat_eq_natCast]);omega) (AllP.c (by unfold inR;(try simp only [Int.ofNat_eq_natCast]);omega) AllP.n)) ?_
 refine VSt.cond rfl (fun g=>absurd g (by decide)) (fun _=>?_)
 refine VSt.go tb_ok false [] 200 rfl AllP.n ?_
 exact EndsP.mk rfl rfl rfl rfl
theorem grow_ok {k:Nat} (hk:0<k) (hn:k≤1000000):VC (sE r) [] 130 [.p (.lst 0 true 0 fun _=>[]),nv k] [] (fun a L=>a = .sl 0 1 0 0 k 0∧L=[(0,.arr k 1 (fun _=>[.int .i64 0]) 3)]):=by
 refine VC.of (fn:=Tryz.f130) tb_ok (wk_ok rfl) (by kernel_rfl) rfl rfl ?_
 refine VSt.go tb_ok false [] 200 rfl AllP.n ?_
 refine VSt.cond rfl (fun g=>?_) (fun _=>?_)
 ·have g:=of_decide_eq_true g
  simp only [Int.ofNat_eq_natCast] at g
  omega
 refine VSt.go tb_ok false [10] 200 rfl AllP.n ?_
 refine VSt.opA rfl rfl (PureA.capN tb_ok rfl rfl rfl rfl) ?_
 refine VSt.go tb_ok false [15] 200 rfl (AllP.c (by unfold inR;(try simp only [Int.ofNat_eq_natCast]);omega) (AllP.c (by unfold inR;(try simp only [Int.ofNat_eq_natCast]);omega) AllP.n)) ?_
 refine VSt.putO 1 (nv k) rfl (iv_nv (by simp only [Int.ofNat_eq_natCast];omega)) ?_
 refine VSt.go tb_ok false [] 200 rfl AllP.n ?_
 refine VSt.cond rfl (fun _=>?_) (fun g=>?_)
 rotate_left
 ·have g:=n0' g
  omega
 refine VSt.go tb_ok false [19] 200 rfl AllP.n ?_
 refine VSt.putO 17 (.p (.lst 3 true 0 fun _=>[])) rfl AImp.nil ?_
 refine VSt.opA rfl rfl (PureA.capN tb_ok rfl rfl rfl rfl) ?_
 refine VSt.go tb_ok false [22] 200 rfl (AllP.c (by omega) (AllP.c (Nat.le_refl _) (AllP.c (by omega) AllP.n))) ?_
 refine VSt.appZ tb_ok rfl rfl rfl rfl rfl rfl rfl rfl rfl hk (by omega) ?_
 refine VSt.go tb_ok false [] 200 rfl (AllP.c (by omega) (AllP.c (by omega) (AllP.c (by omega) (AllP.c rfl AllP.n)))) ?_
 exact ⟨rfl,_,[(0,0)],.sl 0 1 0 0 k 0,_,rfl,⟨rfl,rfl,wf_imp rfl rfl (AImp.slE' (by omega) (by omega) (by omega)) wf_nil,_,rfl,LImp.refl _⟩,rfl,rfl⟩
def catL (ls:Nat→List Int):Nat→List Int
 | 0=>[]
 | k+1=>catL ls k++ls k
theorem catL_mono {ls:Nat→List Int}:∀ {i j:Nat},i≤j→(catL ls i).length≤(catL ls j).length
 | i,0,h=>by rw [show i=0 by omega];exact Nat.le_refl _
 | i,j+1,h=>by
  by_cases e:i=j+1
  ·subst e;exact Nat.le_refl _
  ·have:=catL_mono (ls:=ls) (show i≤j by omega)
   rw [catL,List.length_append];omega
def catF (Z:List Int):Nat→List PV:=fun i=>bif Nat.blt i Z.length then fL Z i else [.int .i64 0]
def eRows (bs:Nat→Bool) (ls:Nat→List Int):PV:=.lst 32 false 3 fun k=>[eInts (bs k) (ls k)]
theorem catF_add {X Y:List Int} (i:Nat):(bif Nat.ble (0+X.length) i&&Nat.blt i (0+X.length+Y.length) then (fun k=>[PV.int .i64 (Y.getD k 0)]) (i - (0+X.length)) else catF X i)=catF (X++Y) i:=by
 rw [Nat.zero_add]
 unfold catF fL
 by_cases h1:i<X.length
 ·rw [blt_t h1,show Nat.ble X.length i=false by
   rw [←Bool.not_eq_true];intro h
   have:=Nat.le_of_ble_eq_true h
   omega,blt_t (show i<(X++Y).length by rw [List.length_append];omega)]
  show [PV.int .i64 (X.getD i 0)]=[PV.int .i64 ((X++Y).getD i 0)]
  simp only [List.getD_eq_getElem?_getD]
  rw [List.getElem?_append_left h1]
 ·by_cases h2:i<X.length+Y.length
  ·rw [ble_t (by omega),blt_t h2,blt_t (show i<(X++Y).length by rw [List.length_append];omega)]
   show [PV.int .i64 (Y.getD (i - X.length) 0)]=[PV.int .i64 ((X++Y).getD i 0)]
   simp only [List.getD_eq_getElem?_getD]
   rw [List.getElem?_append_right (by omega)]
  ·rw [blt_f h2,blt_f (show ¬ i<(X++Y).length by rw [List.length_append];omega),blt_f h1,Bool.and_false];rfl
set_option maxHeartbeats 4000000 in
theorem concat_ok {bs:Nat→Bool} {ls:Nat→List Int} (hn:(catL ls 3).length≤1000000):VC (sE r) [] 113 [.p (eRows bs ls)] [] (fun a L=>a = .acc true 0 1 (catL ls 3).length∧L=[(0,.acc (catL ls 3).length 1 (fL (catL ls 3)) 3)]):=by
 have hls:∀ k,k<3→(catL ls k).length+(ls k).length≤(catL ls 3).length:=fun k hk=>by
  have:=catL_mono (ls:=ls) (show k+1≤3 by omega)
  rw [catL,List.length_append] at this
  exact this
 refine VC.of (fn:=Tryz.f113) tb_ok (wk_ok rfl) (by kernel_rfl) rfl rfl ?_
 refine VSt.go tb_ok false [] 200 rfl AllP.n ?_
 refine VSt.rangeT tb_ok 3 (by omega) [0,9] (fun k=>[(3,nv (catL ls k).length)]) (fun _=>[]) (fun _=>True) rfl rfl rfl (fun _=>rfl) rfl rfl (u0_cons rfl (AImp.refl _) u0_nil) trivial trivial (fun k hk _=>?_) (fun _=>?_)
 ·have:=hls k hk
  have e:(catL ls (k+1)).length=(catL ls k).length+(ls k).length:=by rw [catL,List.length_append]
  refine VSt.go tb_ok false [] 200 rfl (AllP.c ‹_› (AllP.c rfl (AllP.c (by unfold inR;(try simp only [Int.ofNat_eq_natCast]);omega) AllP.n))) ?_
  refine VSt.cond rfl (fun g=>?_) (fun _=>?_)
  ·have g:=of_decide_eq_true g
   simp only [Int.ofNat_eq_natCast] at g
   omega
  refine VSt.go tb_ok false [] 200 rfl AllP.n ?_
  refine ⟨?_,trivial⟩
  dsimp only
  rw [e]
  (refine Vw.drop (by repeat (first | exact wf_nil | refine wf_back rfl rfl rfl ?_ | refine wf_cons rfl ‹_› (ren_only _ ‹_›) ?_)))
 ·by_cases h0:(catL ls 3).length=0
  ·rw [h0]
   refine VSt.go tb_ok false [] 200 rfl AllP.n ?_
   refine VSt.pc rfl rfl rfl rfl rfl rfl rfl rfl (grow0_ok) ?_
   refine VSt.go tb_ok false [] 200 rfl AllP.n ?_
   refine VSt.rangeT tb_ok 3 (by omega) [25] (fun k=>[(6,.p (.lst 0 true 0 fun _=>[]))]) (fun _=>[]) (fun _=>True) rfl rfl rfl (fun _=>rfl) rfl rfl (u0_cons rfl (AImp.refl _) u0_nil) trivial trivial (fun k hk _=>?_) (fun _=>?_)
   ·have:=hls k hk
    have e:(ls k).length=0:=by omega
    refine VSt.go tb_ok true [27] 200 rfl (AllP.c ‹_› (AllP.c rfl (AllP.c ‹_› AllP.n))) ?_
    refine ⟨?_,trivial⟩
    (refine Vw.drop (by repeat (first | exact wf_nil | refine wf_back rfl rfl rfl ?_ | refine wf_cons rfl ‹_› (ren_only _ ‹_›) ?_)))
   ·refine VSt.viewC (Vw.adopt 0 1 (fL []) 3 rfl) ?_
    refine VSt.go tb_ok false [] 200 rfl AllP.n ?_
    rw [List.length_eq_zero_iff.1 h0]
    exact ⟨rfl,_,[(0,0)],.acc true 0 1 0,_,rfl,⟨rfl,rfl,wf_imp rfl rfl AImp.nilAcc wf_nil,_,rfl,LImp.refl _⟩,rfl,rfl⟩
  ·refine VSt.go tb_ok false [] 200 rfl AllP.n ?_
   refine VSt.cc [] rfl rfl rfl rfl rfl rfl rfl rfl rfl rfl rfl (grow_ok (k:=(catL ls 3).length) (by omega) hn) ?_
   rintro a L' ⟨rfl,rfl⟩
   refine VSt.go tb_ok false [] 200 rfl AllP.n ?_
   refine VSt.rangeT tb_ok 3 (by omega) [25] (fun k=>[(6,.sl 0 1 0 (catL ls k).length (catL ls 3).length 0)]) (fun k=>[(0,.arr (catL ls 3).length 1 (catF (catL ls k)) 3)]) (fun _=>True) rfl rfl rfl (fun _=>rfl) rfl rfl (u0_cons rfl (AImp.refl _) u0_nil) ⟨rfl,BImp.arr (fun _ _=>rfl),trivial⟩ trivial (fun k hk _=>?_) (fun _=>?_)
   ·have:=hls k hk
    have e:(catL ls (k+1)).length=(catL ls k).length+(ls k).length:=by rw [catL,List.length_append]
    by_cases h1:(ls k).length=0
    ·have e3:catL ls (k+1)=catL ls k:=by rw [catL,List.length_eq_zero_iff.1 h1,List.append_nil]
     refine VSt.go tb_ok true [27] 200 rfl (AllP.c ‹_› (AllP.c rfl (AllP.c ‹_› AllP.n))) ?_
     refine ⟨?_,trivial⟩
     dsimp only
     rw [e3]
     refine Wk.vw (ps:=[(0,0)]) ⟨rfl,rfl,(by repeat (first | exact wf_nil | refine wf_back rfl rfl rfl ?_)),_,rfl,((LImp.refl _))⟩
    ·refine VSt.go tb_ok false [33] 200 rfl (AllP.c ‹_› (AllP.c rfl AllP.n)) ?_
     refine VSt.appP tb_ok rfl rfl rfl rfl rfl rfl rfl rfl rfl (by omega) (by omega) (fun _ _=>rfl) (by omega) (by omega) ?_
     refine VSt.go tb_ok false [] 200 rfl AllP.n ?_
     refine ⟨?_,trivial⟩
     dsimp only
     rw [e]
     refine Wk.vw (ps:=[(0,0)]) ⟨rfl,rfl,(by repeat (first | exact wf_nil | refine wf_back rfl rfl rfl ?_)),_,rfl,(⟨rfl,BImp.arr (fun i _=>by rw [catL];exact catF_add i),trivial⟩)⟩
   ·refine VSt.go tb_ok false [] 200 rfl AllP.n ?_
    exact ⟨rfl,_,[(0,0)],.acc true 0 1 (catL ls 3).length,[(0,.acc (catL ls 3).length 1 (fL (catL ls 3)) 3)],rfl,⟨rfl,rfl,wf_imp rfl rfl (AImp.slAcc (by omega) rfl rfl) wf_nil,_,rfl,⟨rfl,BImp.arrAcc rfl (fun q hq=>by unfold catF;rw [blt_t hq];rfl),trivial⟩⟩,rfl,rfl⟩
def row3B (a b c:Bool):Nat→Bool
 | 0=>a
 | 1=>b
 | _=>c
def row3L (x y z:List Int):Nat→List Int
 | 0=>x
 | 1=>y
 | _=>z
theorem cat3 (x y z:List Int):catL (row3L x y z) 3=x++(y++z):=by
 show (([]++x)++y)++z=_
 rw [List.nil_append,List.append_assoc]
theorem lit3 {a b c:Bool} {x y z:List Int}:AImp (.p (.lst 32 false 3 fun k=>List.take 1 (List.drop (k*1) [eInts a x,eInts b y,eInts c z]))) (.p (eRows (row3B a b c) (row3L x y z))):=AImp.lst fun k hk=>match k,hk with
 | 0,_=>rfl
 | 1,_=>rfl
 | 2,_=>rfl
def papK (l:List Opn) (d:Int) (k:Nat):List Int:=((l.take k).filter fun o=>counts o d).flatMap fun o=>o.inn++o.out
theorem papK_t {l:List Opn} {d:Int} {k:Nat} (h:k<l.length) (hp:counts (nth l k) d=true):papK l d (k+1)=papK l d k++((nth l k).inn++(nth l k).out):=by
 unfold papK
 rw [take_nth h,List.filter_append,List.filter_cons_of_pos (by exact hp),List.flatMap_append]
 simp
theorem papK_f {l:List Opn} {d:Int} {k:Nat} (h:k<l.length) (hp:counts (nth l k) d=false):papK l d (k+1)=papK l d k:=by
 unfold papK
 rw [take_nth h,List.filter_append,List.filter_cons_of_neg (by rw [hp];decide),List.filter_nil,List.append_nil]
def papL (l:List Opn) (d:Int):List Int:=papK l d l.length
theorem named_len {l:List Int} (h:namedB l=true):l.length≤8:=by
 unfold namedB at h
 rw [Bool.and_eq_true,decide_eq_true_iff] at h
 exact h.2
theorem papK_len {l:List Opn} (hR:Reg l) (d:Int) (k:Nat):(papK l d k).length≤960:=by
 unfold papK
 have h1:=flat_le (l:=(l.take k).filter fun o=>counts o d) (f:=fun o=>o.inn++o.out) (m:=16) fun o ho=>by
  have hO:=hR.vc.ok o (List.mem_of_mem_take (List.mem_filter.1 ho).1)
  have:=named_len hO.inn
  have:=named_len hO.out
  rw [List.length_append];omega
 have h2:((l.take k).filter fun o=>counts o d).length≤60:=Nat.le_trans (List.length_filter_le _ _) (Nat.le_trans (List.length_take_le' ..) hR.len)
 omega
set_option maxHeartbeats 4000000 in
theorem papers_ok {b:Bool} {l:List Opn} {d:Int} (hz:Szs l) (hR:Reg l):VC (sE r) [] 74 [.p (knP b l d)] [] (fun a L=>(papL l d=[]∧a = .p (.lst 3 true 0 fun _=>[])∧L=[])∨∃ g:Nat→Int,0<(papL l d).length∧a = .sl 0 1 0 (setL (papL l d)).length (papL l d).length 0∧L=[(0,.arr (papL l d).length 1 (fInts g) 3)]∧∀ k,k<(setL (papL l d)).length→g k=(setL (papL l d)).getD k 0):=by
 have hn:=hz.len
 refine VC.of (fn:=Tryz.f74) tb_ok (wk_ok rfl) (by kernel_rfl) rfl rfl ?_
 refine VSt.go tb_ok false [] 200 rfl AllP.n ?_
 refine VSt.pc rfl rfl rfl rfl rfl rfl rfl rfl ((counting_ok b l d)) ?_
 refine VSt.go tb_ok false [] 200 rfl AllP.n ?_
 refine VSt.viewC (Vw.kp [3,6] [(0,0)] rfl) ?_
 refine VSt.viewC (Vw.adopt 1 1 (fL []) 3 rfl) ?_
 refine VSt.viewC (Wk.vw (ps:=[(0,0),(1,1)]) (F0:=[(3,.ref 0 0),(6,knF b l d)]) (L0:=memL 0 1 []) ⟨rfl,rfl,(by repeat (first | exact wf_nil | refine wf_back rfl rfl rfl ?_)),_,rfl,⟨rfl,BImp.cell1 AImp.nilAcc,rfl,BImp.refl _,trivial⟩⟩) ?_
 refine VSt.rangeFuncG [(0,2),(1,0),(2,1)] (stc:=[0,1]) rfl rfl rfl rfl rfl rfl rfl rfl (cnt1_ok (b:=b) (l:=l) (d:=d) (by omega) (G1:=fun k=>(7,.agg ((eOpn (nth l k)).map .p))::[(3,.ref 1 0),(6,knF b l d)]) [1]
  (fun k L=>L=memL 1 2 (papK l d k)) (fun _=>False) rfl (fun _=>rfl) ?_ ?_) ?_
 ·rintro k L hk hc rfl
  rw [papK_f hk hc]
 ·rintro k L hk hc rfl
  have hlen:=papK_len hR d (k+1)
  have e:=papK_t hk hc
  have hcc:=concat_ok (r:=r) (bs:=row3B (true&&Nat.beq (papK l d k).length 0) (nth l k).inB (nth l k).outB) (ls:=row3L (papK l d k) (nth l k).inn (nth l k).out)
  rw [cat3,←e] at hcc
  refine VSt.go tb_ok false [4] 200 rfl AllP.n ?_
  refine VSt.aside (eOpn (nth l k)) tb_ok rfl rfl rfl rfl rfl rfl rfl rfl rfl rfl rfl ?_
  refine VSt.go tb_ok false [] 200 rfl AllP.n ?_
  refine ⟨rfl,_,rfl,?_⟩
  refine VSt.viewC (Vw.freezeA 2 rfl rfl ⟨Nat.le_refl _,rfl⟩) ?_
  refine VSt.go tb_ok false [14] 200 rfl AllP.n ?_
  refine VSt.putO 13 (.p (eRows (row3B (true&&Nat.beq (papK l d k).length 0) (nth l k).inB (nth l k).outB) (row3L (papK l d k) (nth l k).inn (nth l k).out))) rfl lit3 ?_
  refine VSt.cc [] rfl rfl rfl rfl rfl rfl rfl rfl rfl rfl rfl (hcc (by omega)) ?_
  rintro a L' ⟨rfl,rfl⟩
  refine VSt.go tb_ok false [] 200 rfl AllP.n ?_
  exact .inl ⟨rfl,[],_,by refine Wk.vw (ps:=[(0,0),(1,1),(2,2)]) ⟨rfl,rfl,(by repeat (first | exact wf_nil | refine wf_back rfl rfl rfl ?_)),_,rfl,((LImp.refl _))⟩,rfl⟩
 ·rintro a L' (⟨L,rfl,rfl⟩ | ⟨G2,L,hJ,rfl⟩)
  rotate_left
  ·exact hJ.elim
  refine ⟨_,_,_,_,_,_,_,_,rfl,rfl,rfl,?_⟩
  have hlen:=papK_len hR d l.length
  change (papL l d).length≤960 at hlen
  rw [show papK l d l.length=papL l d from rfl]
  refine VSt.go tb_ok false [] 200 rfl AllP.n ?_
  refine VSt.cc [(0,1)] rfl rfl rfl rfl rfl rfl rfl rfl rfl rfl rfl (VC.sortA rfl (hk_ok rfl) (p:=fun k=>(papL l d).getD k 0) (by omega)) ?_
  rintro a L' ⟨rfl,rfl⟩
  refine VSt.go tb_ok false [] 200 rfl AllP.n ?_
  refine VSt.viewO (Vw.kp [17] [(0,1)] rfl) ?_
  by_cases hZ:(papL l d).length=0
  ·refine VSt.viewO (Vw.freezeA 0 rfl rfl ⟨Nat.le_refl _,rfl⟩) ?_
   refine VSt.putO 17 (.p (.lst 3 true 0 fun _=>[])) rfl (by rw [hZ];exact AImp.lst fun k hk=>absurd hk (Nat.not_lt_zero k)) ?_
   refine VSt.pc rfl rfl rfl rfl rfl rfl rfl rfl ((compact0_ok (fl:=true) (f:=fun _=>[]))) ?_
   refine VSt.go tb_ok false [] 200 rfl AllP.n ?_
   exact ⟨rfl,_,[],.p (.lst 3 true 0 fun _=>[]),[],rfl,⟨rfl,rfl,wf_imp rfl rfl (AImp.refl _) wf_nil,_,rfl,trivial⟩,.inl ⟨List.length_eq_zero_iff.1 hZ,rfl,rfl⟩⟩
  ·have hpos:0<(papL l d).length:=by omega
   refine VSt.viewO (Wk.vw (ps:=[(0,0)]) (F0:=[(17,.sl 0 1 0 (papL l d).length (papL l d).length 0)]) (L0:=[(0,.arr (papL l d).length 1 (fInts fun k=>(srt (papL l d).length fun k=>(papL l d).getD k 0).getD k 0) 3)]) ⟨rfl,rfl,(by repeat (first | exact wf_nil | refine wf_back rfl rfl rfl ?_ | refine wf_imp rfl rfl (AImp.accSl hpos rfl rfl) ?_)),_,rfl,⟨rfl,BImp.accArr hpos rfl (fun _ _=>rfl),trivial⟩⟩) ?_
   refine VSt.cc [(0,0)] rfl rfl rfl rfl rfl rfl rfl rfl rfl rfl rfl (CompactI_ok hpos (by omega)) ?_
   rintro a L' ⟨G,rfl,rfl,hG⟩
   refine VSt.go tb_ok false [] 200 rfl AllP.n ?_
   exact ⟨rfl,_,[(0,0)],.sl 0 1 0 (setL (papL l d)).length (papL l d).length 0,_,rfl,⟨rfl,rfl,wf_imp rfl rfl (AImp.refl _) wf_nil,_,rfl,LImp.refl _⟩,.inr ⟨G,hpos,rfl,rfl,hG⟩⟩
end Go.Proofs.YtbieflpgjmgaiaaGreat
/- Walks: Papers, the program's and the reference's. -/
set_option maxRecDepth 100000
namespace Go.Proofs.YtbieflpgjmgaiaaGreat
open Kuhn
variable {r:Rm}
theorem AImp.litC {b:Bool}:AImp (.lit b) (bv b):=fun _ _ _ _ _ h=>by
 cases h;exact .p (.bool _)
theorem rise_eq:∀ {A B:List Int},A.Pairwise (· < ·)→B.Pairwise (· < ·)→(∀ x,x∈A ↔ x∈B)→A=B
 | [],[],_,_,_=>rfl
 | [],b::B,_,_,h=>nomatch (h b).2 (List.mem_cons_self ..)
 | a::A,[],_,_,h=>nomatch (h a).1 (List.mem_cons_self ..)
 | a::A,b::B,h1,h2,h=>by
  obtain ⟨a1,a2⟩:=List.pairwise_cons.1 h1
  obtain ⟨b1,b2⟩:=List.pairwise_cons.1 h2
  have e:a=b:=by
   have h3:=(h a).1 (List.mem_cons_self ..)
   have h4:=(h b).2 (List.mem_cons_self ..)
   rcases List.mem_cons.1 h3 with h3 | h3
   ·exact h3
   rcases List.mem_cons.1 h4 with h4 | h4
   ·exact h4.symm
   have:=a1 b h4
   have:=b1 a h3
   omega
  subst e
  rw [rise_eq a2 b2 fun x=>?_]
  constructor
  ·intro hx
   rcases List.mem_cons.1 ((h x).1 (List.mem_cons_of_mem _ hx)) with h5 | h5
   ·have:=a1 x hx;omega
   ·exact h5
  ·intro hx
   rcases List.mem_cons.1 ((h x).2 (List.mem_cons_of_mem _ hx)) with h5 | h5
   ·have:=b1 x hx;omega
   ·exact h5
def papC (c:List Opn) (k:Nat):List Int:=(c.take k).flatMap fun o=>o.inn++o.out
theorem papC_succ {c:List Opn} {k:Nat} (h:k<c.length):papC c (k+1)=papC c k++((nth c k).inn++(nth c k).out):=by
 unfold papC
 rw [take_nth h,List.flatMap_append]
 simp
theorem papC_all (l:List Opn) (d:Int):papC (cnt l d nb) (cnt l d nb).length=papL l d:=by
 unfold papC papL papK
 rw [List.take_length,List.take_length,cnt_nb]
open Classical in
noncomputable def papV (l:List Opn) (d:Int):List Int:=if askE l d=0 then setL (papL l d) else []
theorem setL_nil:setL []=[]:=rfl
theorem setL_pos {Z:List Int} (h:0<Z.length):(setL Z).isEmpty=false:=by
 have:0<(setL Z).length:=ded_pos _ h
 cases e:setL Z with
 | nil=>rw [e] at this;exact absurd this (by decide)
 | cons=>rfl
theorem Papers_ok {b:Bool} {l:List Opn} {d:Int} (hz:SzsW l):VP (sE r) 19 [.p (eOpns b l),iv d] (.tup [.p (eL (papV l d)),iv (askE l d)]):=by
 have hlk:=look_ok (r:=r) (b:=b) (ds:=[d]) hz (show 0<1 by decide) (show 1<1000000 by decide)
 refine VP.of (fn:=Tryz.f19) tb_ok (wk_ok rfl) (by kernel_rfl) rfl rfl rfl ?_
 refine VSt.go tb_ok false [] 200 rfl AllP.n ?_
 rcases ask_cases l d with ⟨hR,hd,hE⟩ | ⟨hE,hl⟩
 ·have hz:=hR.szs
  have eq:papV l d=setL (papL l d):=if_pos hE
  rw [(look1 (b:=b) hR hd).1,(look1 (b:=b) hR hd).2] at hlk
  rw [eq,hE]
  refine VSt.pc rfl rfl rfl rfl rfl rfl rfl rfl ((VP.imp hlk ⟨AImp.refl _,lit1,trivial⟩)) ?_
  refine VSt.go tb_ok false [] 200 rfl AllP.n ?_
  refine VSt.cond rfl (fun h=>absurd h (by decide)) (fun _=>?_)
  refine VSt.go tb_ok false [] 200 rfl AllP.n ?_
  refine VSt.cc [] rfl rfl rfl rfl rfl rfl rfl rfl rfl rfl rfl (papers_ok (b:=b) (l:=l) (d:=d) hz hR) ?_
  rintro a L' (⟨h0,rfl,rfl⟩ | ⟨G,hpos,rfl,rfl,hG⟩)
  ·refine VSt.putO 19 (.p (eL (setL (papL l d)))) rfl (by rw [h0];exact AImp.lst fun k hk=>absurd hk (Nat.not_lt_zero k)) ?_
   refine VSt.go tb_ok false [] 200 rfl AllP.n ?_
   exact EndsP.mk rfl rfl rfl rfl
  ·refine VSt.viewO (Vw.kp [19] [(0,0)] rfl) ?_
   refine VSt.viewO (Vw.freeze 0 rfl rfl ⟨by rw [Nat.zero_add];exact setL_len _,setL_len _,rfl⟩) ?_
   refine VSt.putO 19 (.p (eL (setL (papL l d)))) rfl (by unfold eL;rw [setL_pos hpos];exact AImp.lst fun k hk=>by rw [Nat.zero_add];show [PV.int .i64 (G k)]=_;rw [hG k hk]) ?_
   refine VSt.go tb_ok false [] 200 rfl AllP.n ?_
   exact EndsP.mk rfl rfl rfl rfl
 ·rw [(hl b).1,(hl b).2] at hlk
  have eq:papV l d=[]:=if_neg hE
  rw [eq]
  refine VSt.pc rfl rfl rfl rfl rfl rfl rfl rfl ((VP.imp hlk ⟨AImp.refl _,lit1,trivial⟩)) ?_
  refine VSt.go tb_ok false [] 200 rfl AllP.n ?_
  refine VSt.cond rfl (fun _=>?_) (fun h=>?_)
  ·refine VSt.go tb_ok false [5] 200 rfl AllP.n ?_
   refine VSt.putO 4 (.p (eL [])) rfl AImp.nil ?_
   refine VSt.go tb_ok false [] 200 rfl AllP.n ?_
   exact EndsP.mk rfl rfl rfl rfl
  ·have h:(!(askE l d==0))=false:=h
   exact absurd (by simpa using h) hE
def pinS (x:Int) (st:List Int×Bool) (y:Int):List Int×Bool :=
 let a:=bif decide (x≤y) && !st.2 then (st.1++[x],true) else st
 (bif !(y==x) then a.1++[y] else a.1,a.2)
def putK (l:List Int) (x:Int) (k:Nat):List Int×Bool:=(l.take k).foldl (pinS x) ([],false)
def putL (l:List Int) (x:Int):List Int:=bif (putK l x l.length).2 then (putK l x l.length).1 else (putK l x l.length).1++[x]
theorem putK_succ {l:List Int} {x:Int} {k:Nat} (h:k<l.length):putK l x (k+1)=pinS x (putK l x k) (l.getD k 0):=by
 unfold putK
 rw [List.take_add_one,List.getElem?_eq_getElem h,List.foldl_append,getD_get h];rfl
theorem putK_len {l:List Int} {x:Int}:∀ k,k≤l.length→(putK l x k).1.length≤2*k
 | 0,_=>Nat.le_refl _
 | k+1,h=>by
  have:=putK_len (l:=l) (x:=x) k (by omega)
  rw [putK_succ (by omega)]
  generalize putK l x k=st at *
  unfold pinS
  cases (decide (x≤l.getD k 0) && !st.2) <;> cases (!(l.getD k 0==x)) <;> simp <;> omega
structure PutOk (l:List Int) (x:Int) (k:Nat) (st:List Int×Bool):Prop where
 rise:st.1.Pairwise (· < ·)
 mem:∀ y,y∈st.1 ↔ (y∈l.take k∨(st.2=true∧y=x))
 no:st.2=false→∀ y,y∈l.take k→y<x
 yes:st.2=true→∃ y,y∈l.take k∧x≤y
theorem rise_snoc {A:List Int} {x:Int} (h:A.Pairwise (· < ·)) (h2:∀ y,y∈A→y<x):(A++[x]).Pairwise (· < ·) :=
 List.pairwise_append.2 ⟨h,List.pairwise_singleton ..,fun a ha b hb=>by rw [List.mem_singleton.1 hb];exact h2 a ha⟩
theorem putK_ok {l:List Int} {x:Int} (hl:l.Pairwise (· < ·)):∀ k,k≤l.length→PutOk l x k (putK l x k)
 | 0,_=>⟨List.Pairwise.nil,fun y=>by simp [putK],fun _ y hy=>by simp at hy,fun h=>by simp [putK] at h⟩
 | k+1,h=>by
  have hk:k<l.length:=by omega
  obtain ⟨h1,h2,h3,h4⟩:=putK_ok (x:=x) hl k (by omega)
  rw [putK_succ hk]
  have ht:l.take (k+1)=l.take k++[l.getD k 0]:=by
   rw [List.take_add_one,List.getElem?_eq_getElem hk,getD_get hk];rfl
  have hbig:∀ y,y∈l.take k→y<l.getD k 0:=fun y hy=>by
   have hq:(l.take k++[l.getD k 0]).Pairwise (· < ·):=by rw [←ht];exact hl.sublist (List.take_sublist _ _)
   exact (List.pairwise_append.1 hq).2.2 y hy _ (List.mem_singleton.2 rfl)
  generalize l.getD k 0=y at *
  generalize putK l x k=st at *
  obtain ⟨A,p⟩:=st
  dsimp only at h1 h2 h3 h4
  cases p with
  | true =>
   obtain ⟨z,hz,hxz⟩:=h4 rfl
   have hy:=hbig z hz
   have e:pinS x (A,true) y=(A++[y],true):=by
    unfold pinS
    rw [show (!(y==x))=true by rw [beq_false_of_ne (by omega)];rfl]
    simp
   rw [e]
   refine ⟨rise_snoc h1 fun w hw=>?_,fun w=>?_,(fun h=>Bool.noConfusion h),fun _=>⟨z,?_,hxz⟩⟩
   ·rcases (h2 w).1 hw with h5 | ⟨_,h5⟩
    ·exact hbig w h5
    ·omega
   ·dsimp only
    rw [ht,List.mem_append,List.mem_append,h2]
    constructor
    ·rintro ((h5 | h5) | h5)
     ·exact .inl (.inl h5)
     ·exact .inr h5
     ·exact .inl (.inr h5)
    ·rintro ((h5 | h5) | h5)
     ·exact .inl (.inl h5)
     ·exact .inr h5
     ·exact .inl (.inr h5)
   ·rw [ht];exact List.mem_append_left _ hz
  | false =>
   have hA:∀ w,w∈A ↔ w∈l.take k:=fun w=>by rw [h2];simp
   have hAx:∀ w,w∈A→w<x:=fun w hw=>h3 rfl w ((hA w).1 hw)
   by_cases hxy:x≤y
   ·by_cases hyx:y=x
    ·have e:pinS x (A,false) y=(A++[x],true):=by
      unfold pinS
      rw [decide_eq_true hxy,hyx]
      simp
     rw [e]
     refine ⟨rise_snoc h1 hAx,fun w=>?_,(fun h=>Bool.noConfusion h),fun _=>⟨y,?_,hxy⟩⟩
     ·dsimp only
      rw [ht,List.mem_append,List.mem_append,hA,List.mem_singleton,List.mem_singleton]
      constructor
      ·rintro (h5 | h5)
       ·exact .inl (.inl h5)
       ·exact .inr ⟨rfl,h5⟩
      ·rintro ((h5 | h5) | h5)
       ·exact .inl h5
       ·exact .inr (by omega)
       ·exact .inr h5.2
     ·rw [ht];exact List.mem_append_right _ (List.mem_singleton.2 rfl)
    ·have e:pinS x (A,false) y=(A++[x]++[y],true):=by
      unfold pinS
      rw [decide_eq_true hxy,show (!(y==x))=true by rw [beq_false_of_ne hyx];rfl]
      simp
     rw [e]
     refine ⟨rise_snoc (rise_snoc h1 hAx) fun w hw=>?_,fun w=>?_,(fun h=>Bool.noConfusion h),fun _=>⟨y,?_,hxy⟩⟩
     ·rcases List.mem_append.1 hw with h5 | h5
      ·have:=hAx w h5;omega
      ·have:=List.mem_singleton.1 h5;omega
     ·dsimp only
      rw [ht,List.mem_append,List.mem_append,List.mem_append,hA,List.mem_singleton,List.mem_singleton]
      constructor
      ·rintro ((h5 | h5) | h5)
       ·exact .inl (.inl h5)
       ·exact .inr ⟨rfl,h5⟩
       ·exact .inl (.inr h5)
      ·rintro ((h5 | h5) | h5)
       ·exact .inl (.inl h5)
       ·exact .inr h5
       ·exact .inl (.inr h5.2)
     ·rw [ht];exact List.mem_append_right _ (List.mem_singleton.2 rfl)
   ·have e:pinS x (A,false) y=(A++[y],false):=by
     unfold pinS
     rw [decide_eq_false hxy,show (!(y==x))=true by rw [beq_false_of_ne (by omega)];rfl]
     simp
    rw [e]
    refine ⟨rise_snoc h1 fun w hw=>hbig w ((hA w).1 hw),fun w=>?_,fun _ w hw=>?_,fun h=>by cases h⟩
    ·dsimp only
     rw [ht,List.mem_append,List.mem_append,hA]
     simp
    ·rw [ht] at hw
     rcases List.mem_append.1 hw with h5 | h5
     ·exact h3 rfl w h5
     ·have:=List.mem_singleton.1 h5;omega
theorem putL_eq {Z:List Int} {x:Int}:putL (setL Z) x=setL (Z++[x]):=by
 have h:=putK_ok (x:=x) (setL_rise Z) (setL Z).length (Nat.le_refl _)
 unfold putL
 generalize putK (setL Z) x (setL Z).length=st at *
 obtain ⟨A,p⟩:=st
 obtain ⟨h1,h2,h3,h4⟩:=h
 dsimp only at h1 h2 h3 h4
 rw [List.take_length] at h2 h3
 cases p with
 | true =>
  refine rise_eq h1 (setL_rise _) fun w=>?_
  show w∈A ↔ _
  rw [h2,setL_mem,setL_mem,List.mem_append,List.mem_singleton]
  simp
 | false =>
  refine rise_eq (rise_snoc h1 fun w hw=>?_) (setL_rise _) fun w=>?_
  ·rcases (h2 w).1 hw with h5 | h5
   ·exact h3 rfl w h5
   ·exact nomatch h5.1
  ·show w∈A++[x] ↔ _
   rw [List.mem_append,h2,setL_mem,setL_mem,List.mem_append]
   simp
set_option maxHeartbeats 4000000 in
theorem put_ok {fl:Bool} {l:List Int} {x:Int} (hn:l.length≤1000):VP (sE r) 75 [.p (eInts fl l),iv x] (.p (eL (putL l x))):=by
 refine VP.of (fn:=Tryz.f75) tb_ok (wk_ok rfl) (by kernel_rfl) rfl rfl rfl ?_
 refine VSt.go tb_ok false [] 200 rfl AllP.n ?_
 refine VSt.viewC (Vw.adopt 0 1 (fL []) 3 rfl) ?_
 refine VSt.loopT (ti:=7) l.length [0,1] (fun k=>[(5,.acc true 0 1 (putK l x k).1.length),(6,bv (putK l x k).2)]) (fun k=>[(0,.acc (putK l x k).1.length 1 (fL (putK l x k).1) 3)]) (fun _=>True) rfl rfl (u0_cons rfl AImp.nilAcc (u0_cons rfl AImp.litC u0_nil)) (LImp.refl _) trivial (fun k hk _=>?_)
 have hlen:=putK_len (l:=l) (x:=x) k hk
 refine VSt.go tb_ok false [] 200 rfl AllP.n ?_
 refine VSt.cond rfl (fun h=>?_) (fun h=>?_)
 ·have h:=nlt h
  have e:=putK_succ (x:=x) h
  have hpd:∀ A p,putK l x k=(A,p)→putK l x (k+1)=pinS x (A,p) (l.getD k 0):=fun A p h=>by rw [e,h]
  generalize putK l x k=st at *
  obtain ⟨A,p⟩:=st
  have e:=hpd A p rfl
  have hlen:A.length≤2*k:=hlen
  have hA1:∀ z:Int,(A++[z]).length=A.length+1:=fun z=>by rw [List.length_append];rfl
  refine VSt.go tb_ok false [] 200 rfl (AllP.c ‹_› (AllP.c rfl AllP.n)) ?_
  refine VSt.splitO 20 rfl (fun h1=>?_) (fun h1=>?_)
  ·have h1:decide (x≤l.getD k 0)=true:=h1
   refine VSt.go tb_ok false [] 200 rfl AllP.n ?_
   refine VSt.cond rfl (fun h2=>?_) (fun h2=>?_)
   ·have h2:(!p)=true:=h2
    refine VSt.go tb_ok false [] 200 rfl (AllP.c (by omega) (AllP.c (by omega) (AllP.c (fun q hq=>match q,hq with | 0,_=>rfl) (AllP.c rfl (AllP.c rfl (AllP.c rfl (AllP.c ‹_› (AllP.c rfl AllP.n)))))))) ?_
    refine VSt.viewC (Wk.vw (ps:=[(0,1)]) (F0:=[(0,.p (eInts fl l)),(1,iv x),(7,nv k),(33,bv (!(l.getD k 0==x))),(5,.acc true 0 1 (A++[x]).length),(6,bv true)]) (L0:=[(0,.acc (A++[x]).length 1 (fL (A++[x])) 3)]) ⟨rfl,rfl,(by repeat (first | exact wf_nil | refine wf_back rfl rfl rfl ?_ | refine wf_imp rfl rfl AImp.litC ?_ | refine wf_imp rfl rfl (AImp.acc (hA1 x).symm (fun _=>rfl)) ?_)),_,rfl,⟨rfl,BImp.acc (hA1 x).symm (fun q hq=>app_int A x q hq),trivial⟩⟩) ?_
    refine VSt.cond rfl (fun h3=>?_) (fun h3=>?_)
    ·have h3:(!(l.getD k 0==x))=true:=h3
     have e2:putK l x (k+1)=(A++[x]++[l.getD k 0],true):=by rw [e];unfold pinS;rw [h1,h2,h3];rfl
     have hN:(A++[x]++[l.getD k 0]).length=(A++[x]).length+1:=by rw [List.length_append];rfl
     have:=hA1 x
     refine VSt.go tb_ok false [] 200 rfl (AllP.c ‹_› (AllP.c rfl (AllP.c (by omega) (AllP.c (by omega) (AllP.c (fun q hq=>match q,hq with | 0,_=>rfl) (AllP.c rfl (AllP.c rfl (AllP.c rfl (AllP.c (by unfold inR;(try simp only [Int.ofNat_eq_natCast]);omega) AllP.n))))))))) ?_
     refine ⟨h,?_,trivial⟩
     dsimp only
     rw [e2]
     exact Wk.vw (ps:=[(0,1)]) ⟨rfl,rfl,(by repeat (first | exact wf_nil | refine wf_back rfl rfl rfl ?_ | refine wf_imp rfl rfl AImp.litC ?_ | refine wf_imp rfl rfl (AImp.acc hN.symm (fun _=>rfl)) ?_)),_,rfl,⟨rfl,BImp.acc hN.symm (fun q hq=>app_int (A++[x]) (l.getD k 0) q hq),trivial⟩⟩
    ·have h3:(!(l.getD k 0==x))=false:=h3
     have e2:putK l x (k+1)=(A++[x],true):=by rw [e];unfold pinS;rw [h1,h2,h3];rfl
     refine VSt.go tb_ok false [] 200 rfl (AllP.c (by unfold inR;(try simp only [Int.ofNat_eq_natCast]);omega) AllP.n) ?_
     refine ⟨h,?_,trivial⟩
     dsimp only
     rw [e2]
     refine Wk.vw (ps:=[(0,0)]) ⟨rfl,rfl,(by repeat (first | exact wf_nil | refine wf_back rfl rfl rfl ?_)),_,rfl,((LImp.refl _))⟩
   ·have h2:(!p)=false:=h2
    refine VSt.go tb_ok false [] 200 rfl (AllP.c ‹_› (AllP.c rfl AllP.n)) ?_
    refine VSt.cond rfl (fun h3=>?_) (fun h3=>?_)
    ·have h3:(!(l.getD k 0==x))=true:=h3
     have e2:putK l x (k+1)=(A++[l.getD k 0],p):=by rw [e];unfold pinS;rw [h1,h2,h3];rfl
     refine VSt.go tb_ok false [] 200 rfl (AllP.c ‹_› (AllP.c rfl (AllP.c (by omega) (AllP.c (by omega) (AllP.c (fun q hq=>match q,hq with | 0,_=>rfl) (AllP.c rfl (AllP.c rfl (AllP.c rfl (AllP.c (by unfold inR;(try simp only [Int.ofNat_eq_natCast]);omega) AllP.n))))))))) ?_
     refine ⟨h,?_,trivial⟩
     dsimp only
     rw [e2]
     exact Wk.vw (ps:=[(0,1)]) ⟨rfl,rfl,(by repeat (first | exact wf_nil | refine wf_back rfl rfl rfl ?_ | refine wf_imp rfl rfl AImp.litC ?_ | refine wf_imp rfl rfl (AImp.acc (hA1 (l.getD k 0)).symm (fun _=>rfl)) ?_)),_,rfl,⟨rfl,BImp.acc (hA1 (l.getD k 0)).symm (fun q hq=>app_int A (l.getD k 0) q hq),trivial⟩⟩
    ·have h3:(!(l.getD k 0==x))=false:=h3
     have e2:putK l x (k+1)=(A,p):=by rw [e];unfold pinS;rw [h1,h2,h3];rfl
     refine VSt.go tb_ok false [] 200 rfl (AllP.c (by unfold inR;(try simp only [Int.ofNat_eq_natCast]);omega) AllP.n) ?_
     refine ⟨h,?_,trivial⟩
     dsimp only
     rw [e2]
     refine Wk.vw (ps:=[(0,0)]) ⟨rfl,rfl,(by repeat (first | exact wf_nil | refine wf_back rfl rfl rfl ?_)),_,rfl,((LImp.refl _))⟩
  ·have h1:decide (x≤l.getD k 0)=false:=h1
   refine VSt.go tb_ok false [] 200 rfl (AllP.c ‹_› (AllP.c rfl AllP.n)) ?_
   refine VSt.cond rfl (fun h3=>?_) (fun h3=>?_)
   ·have h3:(!(l.getD k 0==x))=true:=h3
    have e2:putK l x (k+1)=(A++[l.getD k 0],p):=by rw [e];unfold pinS;rw [h1,h3];rfl
    refine VSt.go tb_ok false [] 200 rfl (AllP.c ‹_› (AllP.c rfl (AllP.c (by omega) (AllP.c (by omega) (AllP.c (fun q hq=>match q,hq with | 0,_=>rfl) (AllP.c rfl (AllP.c rfl (AllP.c rfl (AllP.c (by unfold inR;(try simp only [Int.ofNat_eq_natCast]);omega) AllP.n))))))))) ?_
    refine ⟨h,?_,trivial⟩
    dsimp only
    rw [e2]
    exact Wk.vw (ps:=[(0,1)]) ⟨rfl,rfl,(by repeat (first | exact wf_nil | refine wf_back rfl rfl rfl ?_ | refine wf_imp rfl rfl AImp.litC ?_ | refine wf_imp rfl rfl (AImp.acc (hA1 (l.getD k 0)).symm (fun _=>rfl)) ?_)),_,rfl,⟨rfl,BImp.acc (hA1 (l.getD k 0)).symm (fun q hq=>app_int A (l.getD k 0) q hq),trivial⟩⟩
   ·have h3:(!(l.getD k 0==x))=false:=h3
    have e2:putK l x (k+1)=(A,p):=by rw [e];unfold pinS;rw [h1,h3];rfl
    refine VSt.go tb_ok false [] 200 rfl (AllP.c (by unfold inR;(try simp only [Int.ofNat_eq_natCast]);omega) AllP.n) ?_
    refine ⟨h,?_,trivial⟩
    dsimp only
    rw [e2]
    refine Wk.vw (ps:=[(0,0)]) ⟨rfl,rfl,(by repeat (first | exact wf_nil | refine wf_back rfl rfl rfl ?_)),_,rfl,((LImp.refl _))⟩
 ·have h:k=l.length:=by have:=nge h;omega
  subst h
  refine VSt.go tb_ok false [] 200 rfl AllP.n ?_
  have e:putL l x=bif (putK l x l.length).2 then (putK l x l.length).1 else (putK l x l.length).1++[x]:=rfl
  generalize putK l x l.length=st at *
  obtain ⟨A,p⟩:=st
  have hlen:A.length≤2*l.length:=hlen
  have hA1:(A++[x]).length=A.length+1:=by rw [List.length_append];rfl
  refine VSt.cond rfl (fun h2=>?_) (fun h2=>?_)
  ·have h2:(!p)=true:=h2
   have e:putL l x=A++[x]:=by rw [e,show p=false by simpa using h2];rfl
   rw [e]
   refine VSt.go tb_ok false [4] 200 rfl (AllP.c (by omega) (AllP.c (by omega) (AllP.c (fun q hq=>match q,hq with | 0,_=>rfl) (AllP.c rfl (AllP.c rfl (AllP.c rfl AllP.n)))))) ?_
   refine VSt.viewO (Vw.kp [47] [(0,1)] rfl) ?_
   refine VSt.viewO (Wk.vw (ps:=[(0,0)]) (F0:=[(47,.acc true 0 1 (A++[x]).length)]) (L0:=[(0,.acc (A++[x]).length 1 (fL (A++[x])) 3)]) ⟨rfl,rfl,(by repeat (first | exact wf_nil | refine wf_imp rfl rfl (AImp.acc hA1.symm (fun _=>rfl)) ?_)),_,rfl,⟨rfl,BImp.acc hA1.symm (fun q hq=>app_int A x q hq),trivial⟩⟩) ?_
   refine VSt.viewO (Vw.freezeA 0 rfl rfl ⟨Nat.le_refl _,rfl⟩) ?_
   refine VSt.go tb_ok false [] 200 rfl AllP.n ?_
   refine EndsP.mk rfl rfl rfl ?_
   exact acc_eInts (j:=0) rfl
  ·have h2:(!p)=false:=h2
   have e:putL l x=A:=by rw [e,show p=true by simpa using h2];rfl
   rw [e]
   refine VSt.go tb_ok false [4] 200 rfl AllP.n ?_
   refine VSt.viewO (Vw.kp [47] [(0,0)] rfl) ?_
   refine VSt.viewO (Vw.freezeA 0 rfl rfl ⟨Nat.le_refl _,rfl⟩) ?_
   refine VSt.go tb_ok false [] 200 rfl AllP.n ?_
   refine EndsP.mk rfl rfl rfl ?_
   exact acc_eInts (j:=0) rfl
theorem papC_len {c:List Opn} (hV:Vc c) (hn:c.length≤60) (k:Nat):(papC c k).length≤960:=by
 unfold papC
 have h1:=flat_le (l:=c.take k) (f:=fun o=>o.inn++o.out) (m:=16) fun o ho=>by
  have hO:=hV.ok o (List.mem_of_mem_take ho)
  have:=named_len hO.inn
  have:=named_len hO.out
  rw [List.length_append];omega
 have h2:(c.take k).length≤60:=Nat.le_trans (List.length_take_le' ..) hn
 omega
theorem take_int {l:List Int} {j:Nat} (h:j<l.length):l.take (j+1)=l.take j++[l.getD j 0]:=by
 rw [List.take_add_one,List.getElem?_eq_getElem h,getD_get h];rfl
set_option maxHeartbeats 4000000 in
theorem rPapers_ok {b:Bool} {l:List Opn} {d:Int} (hz:SzsW l):VP (sE r) 20 [.p (eOpns b l),iv d] (.tup [.p (eL (papV l d)),iv (askE l d)]):=by
 have hask:=asked_ok (r:=r) (b:=b) (d:=d) hz
 refine VP.of (fn:=Tryz.f20) tb_ok (wk_ok rfl) (by kernel_rfl) rfl rfl rfl ?_
 refine VSt.go tb_ok false [] 200 rfl AllP.n ?_
 rcases ask_cases l d with ⟨hR,hd,hE⟩ | ⟨hE,_⟩
 ·have hz:=hR.szs
  have hV:=hR.cnt d nb
  have hn:(cnt l d nb).length≤60:=Vc.len hR rfl
  have hzc:=szs_cnt (d:=d) hz
  have eq:papV l d=setL (papC (cnt l d nb) (cnt l d nb).length):=by rw [papC_all];exact if_pos hE
  rw [hE] at hask
  rw [eq,hE]
  refine VSt.pc rfl rfl rfl rfl rfl rfl rfl rfl (hask) ?_
  refine VSt.go tb_ok false [] 200 rfl AllP.n ?_
  refine VSt.cond rfl (fun h=>absurd h (by decide)) (fun _=>?_)
  refine VSt.go tb_ok false [] 200 rfl AllP.n ?_
  refine VSt.pc rfl rfl rfl rfl rfl rfl rfl rfl ((rcounting_ok (b:=b) hz hR (wth_iff.1 hd).2)) ?_
  generalize cnt l d nb=c at *
  refine VSt.go tb_ok false [] 200 rfl AllP.n ?_
  refine VSt.loopT (ti:=9) c.length [7] (fun k=>[(8,.p (eL (setL (papC c k))))]) (fun _=>[]) (fun _=>True) rfl rfl (u0_cons rfl AImp.nil u0_nil) trivial trivial (fun k hk _=>?_)
  have hpl:=papC_len hV hn k
  refine VSt.go tb_ok false [] 200 rfl AllP.n ?_
  refine VSt.cond rfl (fun h=>?_) (fun h=>?_)
  ·have h:=nlt h
   have hi:=named_len (hV.ok (nth c k) (getD_mem h)).inn
   have ho:=named_len (hV.ok (nth c k) (getD_mem h)).out
   refine VSt.go tb_ok false [] 200 rfl AllP.n ?_
   refine VSt.loopT (ti:=10) (nth c k).inn.length [7,9] (fun j=>[(8,.p (eL (setL (papC c k++(nth c k).inn.take j))))]) (fun _=>[]) (fun _=>True) rfl rfl (u0_cons rfl (AImp.of_eq (by rw [List.take_zero,List.append_nil])) u0_nil) trivial trivial (fun j hj _=>?_)
   refine VSt.go tb_ok false [] 200 rfl (AllP.c ‹_› (AllP.c rfl AllP.n)) ?_
   refine VSt.cond rfl (fun g=>?_) (fun g=>?_)
   ·have g:=nlt g
    refine VSt.go tb_ok false [] 200 rfl (AllP.c ‹_› (AllP.c rfl (AllP.c ‹_› (AllP.c rfl AllP.n)))) ?_
    refine VSt.pc rfl rfl rfl rfl rfl rfl rfl rfl ((put_ok (fl:=(setL (papC c k++(nth c k).inn.take j)).isEmpty) (l:=setL (papC c k++(nth c k).inn.take j)) (x:=(nth c k).inn.getD j 0) (by refine Nat.le_trans (setL_len _) ?_;rw [List.length_append];have:=List.length_take_le j (nth c k).inn;have:(nth c k).inn.length≤8:=hi;omega))) ?_
    refine VSt.go tb_ok false [] 200 rfl (AllP.c (by unfold inR;(try simp only [Int.ofNat_eq_natCast]);omega) AllP.n) ?_
    refine ⟨g,?_,trivial⟩
    dsimp only
    rw [take_int g,←List.append_assoc,←putL_eq]
    (refine Vw.drop (by repeat (first | exact wf_nil | refine wf_back rfl rfl rfl ?_ | refine wf_cons rfl ‹_› (ren_only _ ‹_›) ?_)))
   ·have g:j=(nth c k).inn.length:=by have:=nge g;omega
    subst g
    rw [List.take_length]
    refine VSt.go tb_ok false [] 200 rfl AllP.n ?_
    refine VSt.loopT (ti:=11) (nth c k).out.length [7,9] (fun j=>[(8,.p (eL (setL (papC c k++(nth c k).inn++(nth c k).out.take j))))]) (fun _=>[]) (fun _=>True) rfl rfl (u0_cons rfl (AImp.of_eq (by rw [List.take_zero,List.append_nil])) u0_nil) trivial trivial (fun j hj _=>?_)
    refine VSt.go tb_ok false [] 200 rfl (AllP.c ‹_› (AllP.c rfl AllP.n)) ?_
    refine VSt.cond rfl (fun g=>?_) (fun g=>?_)
    ·have g:=nlt g
     refine VSt.go tb_ok false [] 200 rfl (AllP.c ‹_› (AllP.c rfl (AllP.c ‹_› (AllP.c rfl AllP.n)))) ?_
     refine VSt.pc rfl rfl rfl rfl rfl rfl rfl rfl ((put_ok (fl:=(setL (papC c k++(nth c k).inn++(nth c k).out.take j)).isEmpty) (l:=setL (papC c k++(nth c k).inn++(nth c k).out.take j)) (x:=(nth c k).out.getD j 0) (by refine Nat.le_trans (setL_len _) ?_;rw [List.length_append,List.length_append];have:=List.length_take_le j (nth c k).out;have:(nth c k).inn.length≤8:=hi;have:(nth c k).out.length≤8:=ho;omega))) ?_
     refine VSt.go tb_ok false [] 200 rfl (AllP.c (by unfold inR;(try simp only [Int.ofNat_eq_natCast]);omega) AllP.n) ?_
     refine ⟨g,?_,trivial⟩
     dsimp only
     rw [take_int g,←List.append_assoc,←putL_eq]
     (refine Vw.drop (by repeat (first | exact wf_nil | refine wf_back rfl rfl rfl ?_ | refine wf_cons rfl ‹_› (ren_only _ ‹_›) ?_)))
    ·have g:j=(nth c k).out.length:=by have:=nge g;omega
     subst g
     rw [List.take_length]
     refine VSt.go tb_ok false [] 200 rfl (AllP.c (by unfold inR;(try simp only [Int.ofNat_eq_natCast]);omega) AllP.n) ?_
     refine ⟨h,?_,trivial⟩
     dsimp only
     rw [papC_succ h,←List.append_assoc]
     (refine Vw.drop (by repeat (first | exact wf_nil | refine wf_back rfl rfl rfl ?_ | refine wf_cons rfl ‹_› (ren_only _ ‹_›) ?_)))
  ·have h:k=c.length:=by have:=nge h;omega
   subst h
   refine VSt.go tb_ok false [] 200 rfl AllP.n ?_
   exact EndsP.mk rfl rfl rfl rfl
 ·have eq:papV l d=[]:=if_neg hE
  rw [eq]
  refine VSt.pc rfl rfl rfl rfl rfl rfl rfl rfl (hask) ?_
  refine VSt.go tb_ok false [] 200 rfl AllP.n ?_
  refine VSt.cond rfl (fun _=>?_) (fun h=>?_)
  ·refine VSt.go tb_ok false [5] 200 rfl AllP.n ?_
   refine VSt.putO 4 (.p (eL [])) rfl AImp.nil ?_
   refine VSt.go tb_ok false [] 200 rfl AllP.n ?_
   exact EndsP.mk rfl rfl rfl rfl
  ·have h:(!(askE l d==0))=false:=h
   exact absurd (by simpa using h) hE
end Go.Proofs.YtbieflpgjmgaiaaGreat
