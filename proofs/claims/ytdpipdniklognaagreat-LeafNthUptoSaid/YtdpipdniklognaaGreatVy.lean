/- The program's LeafNth returns true for all numbers that describe a book and all lists of Ids, without an exception and without changing its arguments: a part of the proof. -/
import Derived.Test.YtdpipdniklognaaGreatVx
import Derived.Test.YtdpipdniklognaaGreatVe
import Derived.Test.YtdpipdniklognaaGreatRows
import Derived.Test.YtdpipdniklognaaGreatVw
import Derived.JoinedCond
set_option linter.all false
/- Walks of the reference: Mod, pick; the book that numbers describe, its order. -/
set_option maxRecDepth 100000
namespace Go.Proofs.YtdpipdniklognaaGreat
section
variable {r:Rm}
theorem z8v {x m:Int} (h0:0<m) (h1:m<4611686018427387904):VP (sE r) 36 [iv x,iv m] (iv (zV x m)):=by
 have hm:m≠0:=by omega
 have h2:=Int.lt_tmod_of_pos x h0
 have h3:=Int.tmod_lt_of_pos x h0
 have h4:inR (x.tmod m+m):=by unfold inR;omega
 refine VP.of (fn:=Tryz.f36) za (zD rfl) (by kernel_rfl) rfl rfl rfl ?_
 refine VSt.go za false [] 200 rfl (AllP.c ‹_› (AllP.c ‹_› (AllP.c ‹_› AllP.n))) ?_
 exact EndsP.mk rfl rfl rfl rfl
theorem zn9 {b:Bool} {l:List Int} {i:Nat} (hl:l.length<4611686018427387904):VP (sE r) 96 [.p (z1V b l),nv i] (iv (z5d l i)):=by
 refine VP.of (fn:=Tryz.f96) za (zD rfl) (by kernel_rfl) rfl rfl rfl ?_
 refine VSt.go za false [] 200 rfl AllP.n ?_
 refine VSt.cond rfl (fun h=>?_) (fun h=>?_)
 ·have h:(Int.ofNat l.length==0)=true:=h
  have h:=eq_of_beq h
  refine VSt.go za false [] 200 rfl AllP.n ?_
  refine EndsP.mk rfl rfl rfl ?_
  rw [show z5d l i=0 from if_pos (by simp only [yl] at h;omega)];rfl
 ·have h:(Int.ofNat l.length==0)=false:=h
  have h0:l.length≠0:=fun g=>by rw [g] at h;cases h
  have hr:=z19 (x:=Int.ofNat i) (m:=Int.ofNat l.length) (by simp only [yl];omega)
  have hk:(zV (Int.ofNat i) (Int.ofNat l.length)).toNat<l.length:=by simp only [yl] at hr ⊢;omega
  refine VSt.go za false [] 200 rfl AllP.n ?_
  refine VSt.pc rfl rfl rfl rfl rfl rfl rfl rfl ((z8v (x:=Int.ofNat i) (m:=Int.ofNat l.length) (by simp only [yl];omega) (by simp only [yl];omega))) ?_
  refine VSt.go za false [13] 200 rfl AllP.n ?_
  refine z0a 12 (nv (zV (Int.ofNat i) (Int.ofNat l.length)).toNat) rfl (z2y (Int.toNat_of_nonneg hr.1).symm) ?_
  refine VSt.go za false [] 200 rfl (AllP.c ‹_› (AllP.c rfl AllP.n)) ?_
  refine EndsP.mk rfl rfl rfl ?_
  rw [show z5d l i=l.getD (zV (Int.ofNat i) (Int.ofNat l.length)).toNat 0 from if_neg h0];rfl
def e3 (x:Int×Int×Int):List PV:=[.int .i64 x.1,.int .i64 x.2.1,.int .i64 x.2.2]
def e2 (x:Int×Int):List PV:=[.int .i64 x.1,.int .i64 x.2]
def zmb (R:Raw):List PV:=[.lst 66 R.shB R.sh.length (fun k=>e3 (shN R k)),.lst 52 R.woB R.wo.length (fun k=>e2 (woN R k)),z1V R.swB R.sw,z1V R.idB R.ids]
structure SzR (R:Raw):Prop where
 sh:R.sh.length<9223372036854775808
 wo:R.wo.length<9223372036854775808
 sw:R.sw.length<9223372036854775808
 ids:R.ids.length<4611686018427387904
def z9j (R:Raw) (k:Nat):List Sht:=(List.range k).map (z5x R)
theorem z5w (R:Raw) (k:Nat):(z9j R k).length=k:=by unfold z9j;rw [List.length_map,List.length_range]
theorem zbA (R:Raw) (k:Nat):z9j R (k+1)=z9j R k++[z5x R k]:=by unfold z9j;rw [List.range_succ,List.map_append];rfl
def bkF (R:Raw) (k:Nat):VK:=[(1,.p (.fp (zmb R) 0)),(2,.ref 1 0),(3,.p (.lst 0 true 0 fun _=>[])),(4,nv (nM R)),(5,.p (z1V (zC R).isEmpty (zC R))),(8,.acc true 0 6 (z9j R k).length),(9,nv k),(10,.ref 2 0),(11,.ref 3 0)]
def bkL (R:Raw) (k:Nat) (a c:Int) (m u:Nat):VS:=[(3,.cells [iv ((zC R).getD k 0),iv 3,iv a,iv c,iv (Int.ofNat m),iv (Int.ofNat u)] 74),(2,.cells [iv (shN R k).1,iv (shN R k).2.1,iv (shN R k).2.2] 66),(0,.acc (z9j R k).length 6 (fS (z9j R k)) 74),(1,.cells [.p (.lst 0 true 0 fun _=>[]),.p (.lst 0 true 0 fun _=>[])] 25)]
def hpF (R:Raw) (j:Nat):VK:=[(1,.p (.fp (zmb R) 0)),(2,.ref 1 0),(4,nv (nM R)),(5,.p (z1V (zC R).isEmpty (zC R))),(8,.p (.lst 74 (true&&(z9j R (nM R)).length.beq 0) (z9j R (nM R)).length (fS (z9j R (nM R))))),(14,.ref 2 0),(15,nv (j+1))]
def hpL (R:Raw) (j:Nat):VS:=[(1,.cells [.p (.lst 0 true 0 fun _=>[]),.p (.lst 0 true 0 fun _=>[])] 25),(2,.cells [.acc true 3 6 (zP R j).length,.acc true 4 2 (zS R j).length] 25),(3,.acc (zP R j).length 6 (fS (zP R j)) 74),(4,.acc (zS R j).length 2 (fW (zS R j)) 58)]
def hpM (R:Raw) (i j:Nat):VS:=[(1,.cells [.p (.lst 0 true 0 fun _=>[]),.p (.lst 0 true 0 fun _=>[])] 25),(2,.cells [.acc true 3 6 (zP R i).length,.acc true 4 2 (zS R j).length] 25),(3,.acc (zP R i).length 6 (fS (zP R i)) 74),(4,.acc (zS R j).length 2 (fW (zS R j)) 58)]
theorem zlx {x:Int} {k:Nat} (hk:k<9223372036854775808):zoz x (Int.ofNat k)=Int.ofNat (z7F x k):=by
 have h1:(BitVec.ofInt 64 x &&& BitVec.ofInt 64 (Int.ofNat k)).toNat=z7F x k:=by
  rw [z1S,BitVec.toNat_and,z2h (by omega)];rfl
 have h2:=zdz x k
 show IntKind.i64.wrap (Int.ofNat (BitVec.ofInt 64 x &&& BitVec.ofInt 64 (Int.ofNat k)).toNat)=_
 rw [z5X _ (by rw [h1];omega),h1]
theorem zob {E:Env} {t:TypeId} {x:Int} {k:Nat} (hk:k<9223372036854775808):zY E .and t (.int .i64 x) (.int .i64 (Int.ofNat k))=some (.int .i64 (Int.ofNat (z7F x k))):=by
 rw [←zlx hk];rfl
set_option maxHeartbeats 8000000 in
theorem zol {R:Raw} (hR:SzR R):VP (sE r) 31 [.agg ((zmb R).map .p)] (.tup [.agg [.p (z0M (zP R 30).isEmpty (zP R 30)),.p (z92 (zS R 30).isEmpty (zS R 30))],.p (z1V (zC R).isEmpty (zC R))]):=by
 have hs:=hR.sh
 have hw:=hR.wo
 have hsw:=hR.sw
 have hid:=hR.ids
 have hn6:=zkN R
 refine VP.of (fn:=Tryz.f31) za (zD rfl) (by kernel_rfl) rfl rfl rfl ?_
 refine VSt.go za false [17] 200 rfl AllP.n ?_
 refine zf (z00 0 (zmb R) rfl rfl) ?_
 refine VSt.go za false [] 200 rfl AllP.n ?_
 refine VSt.putC 4 (nv (nM R)) rfl (z2y (by unfold nM;simp only [yl];omega)) ?_
 refine z02 (z3H 2 1 (fL []) 3 rfl) ?_
 refine z0G (ti:=6) (nM R) [1,2,3,4] (fun k=>[(5,.acc true 2 1 (mdO R k).length)]) (fun k=>[(2,.acc (mdO R k).length 1 (fL (mdO R k)) 3),(1,.cells [.p (.lst 0 true 0 fun _=>[]),.p (.lst 0 true 0 fun _=>[])] 25)]) (fun _=>True) rfl rfl (z2s rfl z1g z0X) (LImp.refl _) trivial (fun k hk _=>?_)
 have hol:=zaE R k
 refine VSt.go za false [] 200 rfl AllP.n ?_
 refine VSt.cond rfl (fun g=>?_) (fun g=>?_)
 ·have g:=nlt g
  have hmr:=z19 (x:=z5d R.ids k) (m:=30) (by decide)
  have hin1:inR (1+zV (z5d R.ids k) 30):=by unfold inR;omega
  have hnx:∀ x,1≤x→x≤30→inR (1+zV x 30)∧1≤z5q x∧z5q x≤30:=fun x _ _=>by
   have:=z19 (x:=x) (m:=30) (by decide)
   unfold inR z5q;omega
  have hnew:=ziS (o:=mdO R k) (x:=1+zV (z5d R.ids k) 30) (by omega) (by omega) (by omega)
  refine VSt.go za false [] 200 rfl AllP.n ?_
  refine VSt.pc rfl rfl rfl rfl rfl rfl rfl rfl ((zn9 (b:=R.idB) (l:=R.ids) (i:=k) hid)) ?_
  refine VSt.go za false [] 200 rfl AllP.n ?_
  refine VSt.pc rfl rfl rfl rfl rfl rfl rfl rfl ((z8v (x:=z5d R.ids k) (m:=30) (by decide) (by decide))) ?_
  refine VSt.go za false [] 200 rfl (AllP.c ‹_› AllP.n) ?_
  refine VSt.loop (α :=Nat×Int) (fun x F L=>1≤x.2∧x.2≤30∧zaU (mdO R k) x.1 x.2=zaU (mdO R k) 30 (1+zV (z5d R.ids k) 30)∧F=[(1,.p (.fp (zmb R) 0)),(2,.ref 1 0),(3,.p (.lst 0 true 0 fun _=>[])),(4,nv (nM R)),(5,.acc true 2 1 (mdO R k).length),(6,nv k),(7,iv x.2)]∧L=[(2,.acc (mdO R k).length 1 (fL (mdO R k)) 3),(1,.cells [.p (.lst 0 true 0 fun _=>[]),.p (.lst 0 true 0 fun _=>[])] 25)]) (fun x=>x.1) (30,1+zV (z5d R.ids k) 30) (Vw.kp [1,2,3,4,5,6,7] [(2,2),(1,1)] rfl) ⟨by show 1≤1+zV _ _;omega,by show 1+zV _ _≤30;omega,rfl,rfl,rfl⟩ ?_
  rintro ⟨f,x⟩ F L ⟨h1,h2,h3,rfl,rfl⟩
  have h1:1≤x:=h1
  have h2:x≤30:=h2
  have h3:zaU (mdO R k) f x=zaU (mdO R k) 30 (1+zV (z5d R.ids k) 30):=h3
  have hn:=hnx x h1 h2
  have hn1:=hn.1
  refine VSt.go za false [] 200 rfl AllP.n ?_
  refine z6d (F0:=[(32,.p (.lst 3 (Nat.beq (mdO R k).length 0) (mdO R k).length (fL (mdO R k)))),(33,iv x)]) (zly (i:=2) rfl (fun q hq=>by
    rcases List.mem_cons.1 hq with rfl | hq
    ·exact ⟨_,rfl,.inr ⟨rfl,rfl⟩⟩
    rcases List.mem_cons.1 hq with rfl | hq
    ·exact ⟨_,rfl,.inl ⟨rfl,rfl⟩⟩
    cases hq)) rfl rfl rfl rfl rfl rfl rfl (zhI (b:=Nat.beq (mdO R k).length 0) (l:=mdO R k) (n:=x) (by omega)) rfl ?_
  refine VSt.go za false [] 200 rfl AllP.n ?_
  refine VSt.cond rfl (fun q=>?_) (fun q=>?_)
  ·have q:(mdO R k).contains x=true:=q
   cases f with
   | zero =>
    have h3:x=_:=h3
    rw [←h3] at hnew
    exact absurd (List.contains_iff_mem.1 q) hnew
   | succ f =>
    have h4:zaU (mdO R k) (f+1) x=zaU (mdO R k) f (z5q x):=by
     show (bif (mdO R k).contains x then zaU (mdO R k) f (z5q x) else x)=_
     rw [q];rfl
    refine VSt.go za false [] 200 rfl AllP.n ?_
    refine VSt.pc rfl rfl rfl rfl rfl rfl rfl rfl ((z8v (x:=x) (m:=30) (by decide) (by decide))) ?_
    refine VSt.go za false [] 200 rfl (AllP.c ‹_› AllP.n) ?_
    exact ⟨(f,z5q x),_,_,(Vw.kp [1,2,3,4,5,6,7] [(2,2),(1,1)] rfl),⟨hn.2.1,hn.2.2,h4.symm.trans h3,rfl,rfl⟩,Nat.lt_succ_self f⟩
  ·have q:(mdO R k).contains x=false:=q
   have h4:zaU (mdO R k) f x=x:=by
    cases f with
    | zero=>rfl
    | succ f =>
     show (bif (mdO R k).contains x then zaU (mdO R k) f (z5q x) else x)=_
     rw [q];rfl
   have e:mdO R (k+1)=mdO R k++[x]:=by
    show mdO R k++[zaU (mdO R k) 30 (1+zV (z5d R.ids k) 30)]=_
    rw [←h3,h4]
   have hN:=congrArg List.length e
   rw [List.length_append,List.length_singleton] at hN
   refine VSt.go za false [] 200 rfl (AllP.c (by omega) (AllP.c (by omega) (AllP.c (fun q hq=>match q,hq with | 0,_=>rfl) (AllP.c rfl (AllP.c rfl (AllP.c rfl (AllP.c (by unfold inR;(try simp only [yl]);omega) AllP.n))))))) ?_
   refine ⟨g,?_,trivial⟩
   exact z0F (ps:=[(2,3),(1,1)]) ⟨rfl,rfl,(by repeat (first | exact zw | refine zo rfl rfl rfl ?_ | refine z2c rfl rfl z6h ?_ | refine z2c rfl rfl (AImp.acc hN.symm (fun _=>rfl)) ?_)),_,rfl,⟨rfl,BImp.acc hN.symm (fun q hq=>by rw [e];exact ze4 _ _ q hq),rfl,BImp.refl _,trivial⟩⟩
 have g:k=nM R:=by have:=nge g;omega
 subst g
 have hol:(zC R).length=nM R:=z1u R
 refine VSt.go za false [8] 200 rfl AllP.n ?_
 refine zf (z1K 2 rfl rfl (by (repeat (first | exact AllP.n | refine AllP.c (by first | assumption | rfl | omega | exact ym _ | (show 0<_;omega) | (show 1<_;omega) | (show 2<_;omega) | (show 3<_;omega) | (intro _ _;rfl) | (intro q hq;match q,hq with | 0,_=>rfl) | (unfold inR;(try simp only [yl]);omega)) ?_)))) ?_
 refine z0a 5 (.p (z1V (zC R).isEmpty (zC R))) rfl (z04 (zmn rfl)) ?_
 refine VSt.go za false [] 200 rfl AllP.n ?_
 refine z02 (z3H 0 6 (fS []) 74 rfl) ?_
 refine z0G (ti:=9) (nM R) [1,2,3,4,5] (fun k=>[(8,.acc true 0 6 (z9j R k).length)]) (fun k=>[(0,.acc (z9j R k).length 6 (fS (z9j R k)) 74),(1,.cells [.p (.lst 0 true 0 fun _=>[]),.p (.lst 0 true 0 fun _=>[])] 25)]) (fun _=>True) rfl rfl (z2s rfl z1g z0X) (LImp.refl _) trivial (fun k hk _=>?_)
 have hsl:=z5w R k
 refine VSt.go za false [] 200 rfl AllP.n ?_
 refine VSt.cond rfl (fun g=>?_) (fun g=>?_)
 ·have g:=nlt g
  have hks:k<R.sh.length:=yo g (Nat.min_le_left _ _)
  have hko:k<(zC R).length:=by omega
  have hm0:=z19 (x:=(shN R k).1) (m:=5) (by decide)
  have hin0:inR (1+zV (shN R k).1 5):=by unfold inR;omega
  refine VSt.go za false [] 200 rfl (AllP.c ‹_› (AllP.c rfl (AllP.c ‹_› (AllP.c rfl (AllP.c (by show 0<_;omega) AllP.n))))) ?_
  refine z2U rfl rfl rfl rfl rfl rfl rfl rfl ((z8v (x:=(shN R k).1) (m:=5) (by decide) (by decide))) ?_
  refine VSt.go za false [] 200 rfl (AllP.c ‹_› (AllP.c (by unfold inR;(try simp only [yl]);omega) AllP.n)) ?_
  refine ways (O:=True) (T:=?T1) (Nat.lt_or_ge (k+1) (nM R)) ?tail1 ?ha1 ?hb1
  case ha1 =>
   intro hx tail
   have hk1:k+1<R.sh.length:=yo hx (Nat.min_le_left _ _)
   have hm1:=z19 (x:=(shN R (k+1)).1) (m:=5) (by decide)
   have hin1:inR (1+zV (shN R (k+1)).1 5):=by unfold inR;omega
   refine VSt.cond rfl (fun q=>?_) (fun q=>absurd hx (by have:=nge (k:=k+1) q;omega))
   refine VSt.go za false [69] 200 rfl (AllP.c (by unfold inR;(try simp only [yl]);omega) AllP.n) ?_
   refine z0a 68 (nv (k+1)) rfl (z2y rfl) ?_
   refine VSt.go za false [] 200 rfl (AllP.c ‹_› (AllP.c rfl (AllP.c (by show 0<_;omega) AllP.n))) ?_
   refine VSt.pc rfl rfl rfl rfl rfl rfl rfl rfl ((z8v (x:=(shN R (k+1)).1) (m:=5) (by decide) (by decide))) ?_
   refine VSt.go za false [75] 200 rfl (AllP.c ‹_› AllP.n) ?_
   refine zf (z0F (ps:=[(3,3),(2,2),(0,0),(1,1)]) (F0:=bkF R k) (L0:=bkL R k (1+zV (shN R k).1 5) (if k+1<nM R then 1+zV (shN R (k+1)).1 5 else 0) 0 0) ⟨rfl,rfl,(by repeat (first | exact zw | refine zo rfl rfl rfl ?_)),_,rfl,⟨rfl,BImp.cells ⟨AImp.refl _,AImp.refl _,AImp.refl _,z04 (by rw [if_pos hx]),AImp.refl _,AImp.refl _,trivial⟩,rfl,BImp.refl _,rfl,BImp.refl _,rfl,BImp.refl _,trivial⟩⟩) ?_
   exact tail trivial
  case hb1 =>
   intro hx tail
   refine VSt.cond rfl (fun q=>absurd (nlt (k:=k+1) q) (by omega)) (fun q=>?_)
   refine VSt.go za false [75] 200 rfl AllP.n ?_
   refine zf (z0F (ps:=[(3,3),(2,2),(0,0),(1,1)]) (F0:=bkF R k) (L0:=bkL R k (1+zV (shN R k).1 5) (if k+1<nM R then 1+zV (shN R (k+1)).1 5 else 0) 0 0) ⟨rfl,rfl,(by repeat (first | exact zw | refine zo rfl rfl rfl ?_)),_,rfl,⟨rfl,BImp.cells ⟨AImp.refl _,AImp.refl _,AImp.refl _,z04 (by rw [if_neg (by omega)]),AImp.refl _,AImp.refl _,trivial⟩,rfl,BImp.refl _,rfl,BImp.refl _,rfl,BImp.refl _,trivial⟩⟩) ?_
   exact tail trivial
  case tail1 =>
   rintro -
   generalize hc1:(if k+1<nM R then 1+zV (shN R (k+1)).1 5 else 0)=c1
   refine VSt.go za false [77] 200 rfl (AllP.c (by show 1<_;omega) AllP.n) ?_
   refine VSt.binA rfl rfl rfl rfl rfl (zob (k:=1) (by decide)) ?_
   refine VSt.go za false [] 200 rfl AllP.n ?_
   refine ways (O:=True) (T:=?T2) (Bool.eq_false_or_eq_true (z7F (shN R k).2.1 1==0)) ?tail2 ?ha2 ?hb2
   case ha2 =>
    intro hx tail
    have q0:(!(Int.ofNat (z7F (shN R k).2.1 1)==0))=false:=by rw [z3a,hx];rfl
    refine VSt.cond rfl (fun q=>absurd (q0.symm.trans q) (by decide)) (fun q=>?_)
    refine VSt.go za false [80] 200 rfl AllP.n ?_
    refine zf (z0F (ps:=[(3,3),(2,2),(0,0),(1,1)]) (F0:=bkF R k) (L0:=bkL R k (bif z7F (shN R k).2.1 1==0 then 1+zV (shN R k).1 5 else 0) (c1) 0 0) ⟨rfl,rfl,(by repeat (first | exact zw | refine zo rfl rfl rfl ?_)),_,rfl,⟨rfl,BImp.cells ⟨AImp.refl _,AImp.refl _,z04 (by rw [hx];rfl),AImp.refl _,AImp.refl _,AImp.refl _,trivial⟩,rfl,BImp.refl _,rfl,BImp.refl _,rfl,BImp.refl _,trivial⟩⟩) ?_
    exact tail trivial
   case hb2 =>
    intro hx tail
    have q0:(!(Int.ofNat (z7F (shN R k).2.1 1)==0))=true:=by rw [z3a,hx];rfl
    refine VSt.cond rfl (fun q=>?_) (fun q=>absurd (q0.symm.trans q) (by decide))
    refine VSt.go za false [80] 200 rfl AllP.n ?_
    refine zf (z0F (ps:=[(3,3),(2,2),(0,0),(1,1)]) (F0:=bkF R k) (L0:=bkL R k (bif z7F (shN R k).2.1 1==0 then 1+zV (shN R k).1 5 else 0) (c1) 0 0) ⟨rfl,rfl,(by repeat (first | exact zw | refine zo rfl rfl rfl ?_)),_,rfl,⟨rfl,BImp.cells ⟨AImp.refl _,AImp.refl _,z04 (by rw [hx];rfl),AImp.refl _,AImp.refl _,AImp.refl _,trivial⟩,rfl,BImp.refl _,rfl,BImp.refl _,rfl,BImp.refl _,trivial⟩⟩) ?_
    exact tail trivial
   case tail2 =>
   rintro -
   generalize ha1:(bif z7F (shN R k).2.1 1==0 then 1+zV (shN R k).1 5 else 0)=a1
   refine VSt.go za false [82] 200 rfl (AllP.c (by show 1<_;omega) AllP.n) ?_
   refine VSt.binA rfl rfl rfl rfl rfl (zob (k:=2) (by decide)) ?_
   refine VSt.go za false [] 200 rfl AllP.n ?_
   refine ways (O:=True) (T:=?T3) (Bool.eq_false_or_eq_true (z7F (shN R k).2.1 2==0)) ?tail3 ?ha3 ?hb3
   case ha3 =>
    intro hx tail
    have q0:(!(Int.ofNat (z7F (shN R k).2.1 2)==0))=false:=by rw [z3a,hx];rfl
    refine VSt.cond rfl (fun q=>absurd (q0.symm.trans q) (by decide)) (fun q=>?_)
    refine VSt.go za false [] 200 rfl AllP.n ?_
    refine z02 (z0F (ps:=[(3,3),(2,2),(0,0),(1,1)]) (F0:=(12,nv 0)::bkF R k) (L0:=bkL R k (a1) (bif z7F (shN R k).2.1 2==0 then c1 else 0) 0 0) ⟨rfl,rfl,(by repeat (first | exact zw | refine zo rfl rfl rfl ?_)),_,rfl,⟨rfl,BImp.cells ⟨AImp.refl _,AImp.refl _,AImp.refl _,z04 (by rw [hx];rfl),AImp.refl _,AImp.refl _,trivial⟩,rfl,BImp.refl _,rfl,BImp.refl _,rfl,BImp.refl _,trivial⟩⟩) ?_
    exact tail trivial
   case hb3 =>
    intro hx tail
    have q0:(!(Int.ofNat (z7F (shN R k).2.1 2)==0))=true:=by rw [z3a,hx];rfl
    refine VSt.cond rfl (fun q=>?_) (fun q=>absurd (q0.symm.trans q) (by decide))
    refine VSt.go za false [] 200 rfl AllP.n ?_
    refine z02 (z0F (ps:=[(3,3),(2,2),(0,0),(1,1)]) (F0:=(12,nv 0)::bkF R k) (L0:=bkL R k (a1) (bif z7F (shN R k).2.1 2==0 then c1 else 0) 0 0) ⟨rfl,rfl,(by repeat (first | exact zw | refine zo rfl rfl rfl ?_)),_,rfl,⟨rfl,BImp.cells ⟨AImp.refl _,AImp.refl _,AImp.refl _,z04 (by rw [hx];rfl),AImp.refl _,AImp.refl _,trivial⟩,rfl,BImp.refl _,rfl,BImp.refl _,rfl,BImp.refl _,trivial⟩⟩) ?_
    exact tail trivial
   case tail3 =>
   rintro -
   generalize hc2:(bif z7F (shN R k).2.1 2==0 then c1 else 0)=c2
   refine z0G (ti:=12) (nW R) [1,2,3,4,5,8,9,10,11] (fun _=>[]) (fun w=>bkL R k a1 c2 (z6Q R k w) 0) (fun _=>True) rfl rfl z0X (LImp.refl _) trivial (fun w hw _=>?_)
   have hw12:nW R≤12:=Nat.min_le_right _ _
   have hwl:nW R≤R.wo.length:=Nat.min_le_left _ _
   have hwk:z6Q R k w<9223372036854775808:=yo (za4 R k w) (yn (Nat.pow_le_pow_right (by decide) (show w≤12 by omega)) (by decide))
   refine VSt.go za false [] 200 rfl AllP.n ?_
   refine ways (O:=True) (T:=?T4) (Nat.lt_or_ge w (nW R)) ?tail4 ?ha4 ?hb4
   case ha4 =>
    intro hx _
    have hx12:w<12:=by omega
    have hxl:w<R.wo.length:=by omega
    have hm7:=z19 (x:=(woN R w).1) (m:=7) (by decide)
    have hm4:=z19 (x:=(woN R w).2) (m:=4) (by decide)
    have hi4:inR (zV (woN R w).1 7+zV (woN R w).2 4):=by unfold inR;omega
    have hsh:1 <<< w<9223372036854775808:=by
     rw [Nat.one_shiftLeft];exact yo (Nat.pow_lt_pow_right (by decide) hx12) (by decide)
    have eK:z6Q R k (w+1)=bif zcW R k w then z6Q R k w ||| 1 <<< w else z6Q R k w:=rfl
    refine zb 90 rfl (fun q=>?_) (fun q=>absurd hxl (by have:=nge q;omega))
    refine VSt.go za false [] 200 rfl AllP.n ?_
    refine VSt.cond rfl (fun q=>?_) (fun q=>absurd hx12 (by have:=nge (n:=12) q;omega))
    refine VSt.go za false [] 200 rfl (AllP.c ‹_› (AllP.c rfl (AllP.c (by show 0<_;omega) AllP.n))) ?_
    refine VSt.pc rfl rfl rfl rfl rfl rfl rfl rfl ((z8v (x:=(woN R w).1) (m:=7) (by decide) (by decide))) ?_
    refine VSt.go za false [] 200 rfl AllP.n ?_
    refine zb 106 rfl (fun b1=>?_) (fun b1=>?_)
    ·have b1:decide (zV (woN R w).1 7≤Int.ofNat k)=true:=b1
     refine VSt.go za false [] 200 rfl (AllP.c ‹_› (AllP.c rfl (AllP.c (ym _) AllP.n))) ?_
     refine VSt.pc rfl rfl rfl rfl rfl rfl rfl rfl ((z8v (x:=(woN R w).2) (m:=4) (by decide) (by decide))) ?_
     refine VSt.go za false [] 200 rfl (AllP.c ‹_› AllP.n) ?_
     refine VSt.cond rfl (fun b2=>?_) (fun b2=>?_)
     ·have b2:decide (Int.ofNat k≤zV (woN R w).1 7+zV (woN R w).2 4)=true:=b2
      rw [show zcW R k w=true by unfold zcW;rw [b1,b2];rfl,cond_true] at eK
      refine VSt.go za false [] 200 rfl (AllP.c (by omega) (AllP.c ‹_› (AllP.c ‹_› (AllP.c ‹_› (AllP.c (by unfold inR;(try simp only [yl]);omega) AllP.n))))) ?_
      refine ⟨hx,?_,trivial⟩
      dsimp only
      rw [eK]
      refine z0F (ps:=[(3,3),(2,2),(0,0),(1,1)]) ⟨rfl,rfl,(by repeat (first | exact zw | refine zo rfl rfl rfl ?_)),_,rfl,(⟨rfl,BImp.refl _,rfl,BImp.refl _,rfl,BImp.refl _,rfl,BImp.refl _,trivial⟩)⟩
     ·have b2:decide (Int.ofNat k≤zV (woN R w).1 7+zV (woN R w).2 4)=false:=b2
      rw [show zcW R k w=false by unfold zcW;rw [b1,b2];rfl,cond_false] at eK
      refine VSt.go za false [] 200 rfl (AllP.c (by unfold inR;(try simp only [yl]);omega) AllP.n) ?_
      refine ⟨hx,?_,trivial⟩
      dsimp only
      rw [eK]
      refine z0F (ps:=[(3,3),(2,2),(0,0),(1,1)]) ⟨rfl,rfl,(by repeat (first | exact zw | refine zo rfl rfl rfl ?_)),_,rfl,(⟨rfl,BImp.refl _,rfl,BImp.refl _,rfl,BImp.refl _,rfl,BImp.refl _,trivial⟩)⟩
    ·have b1:decide (zV (woN R w).1 7≤Int.ofNat k)=false:=b1
     rw [show zcW R k w=false by unfold zcW;rw [b1];rfl,cond_false] at eK
     refine VSt.go za false [] 200 rfl (AllP.c (by unfold inR;(try simp only [yl]);omega) AllP.n) ?_
     refine ⟨hx,?_,trivial⟩
     dsimp only
     rw [eK]
     refine z0F (ps:=[(3,3),(2,2),(0,0),(1,1)]) ⟨rfl,rfl,(by repeat (first | exact zw | refine zo rfl rfl rfl ?_)),_,rfl,(⟨rfl,BImp.refl _,rfl,BImp.refl _,rfl,BImp.refl _,rfl,BImp.refl _,trivial⟩)⟩
   case hb4 =>
    intro hx tail
    have hx2:w=nW R:=by omega
    refine zb 90 rfl (fun q=>?_) (fun q=>?_)
    ·have q:=nlt q
     refine VSt.go za false [] 200 rfl AllP.n ?_
     refine VSt.cond rfl (fun q2=>absurd (nlt (n:=12) q2) (by unfold nW at hx;omega)) (fun q2=>?_)
     refine VSt.go za false [125] 200 rfl AllP.n ?_
     refine zf (z0F (ps:=[(3,3),(2,2),(0,0),(1,1)]) (F0:=bkF R k) (L0:=bkL R k a1 c2 (z6Q R k (nW R)) 0) ⟨rfl,rfl,(by repeat (first | exact zw | refine zo rfl rfl rfl ?_)),_,rfl,⟨rfl,BImp.cells ⟨AImp.refl _,AImp.refl _,AImp.refl _,AImp.refl _,z04 (by rw [←hx2]),AImp.refl _,trivial⟩,rfl,BImp.refl _,rfl,BImp.refl _,rfl,BImp.refl _,trivial⟩⟩) ?_
     exact tail trivial
    ·refine VSt.go za false [125] 200 rfl AllP.n ?_
     refine zf (z0F (ps:=[(3,3),(2,2),(0,0),(1,1)]) (F0:=bkF R k) (L0:=bkL R k a1 c2 (z6Q R k (nW R)) 0) ⟨rfl,rfl,(by repeat (first | exact zw | refine zo rfl rfl rfl ?_)),_,rfl,⟨rfl,BImp.cells ⟨AImp.refl _,AImp.refl _,AImp.refl _,AImp.refl _,z04 (by rw [←hx2]),AImp.refl _,trivial⟩,rfl,BImp.refl _,rfl,BImp.refl _,rfl,BImp.refl _,trivial⟩⟩) ?_
     exact tail trivial
   case tail4 =>
   rintro -
   have hwk2:z6Q R k (nW R)<9223372036854775808:=yo (za4 R k _) (yn (Nat.pow_le_pow_right (by decide) hw12) (by decide))
   have hlo:z7F (shN R k).2.2 4095<9223372036854775808:=Nat.lt_of_le_of_lt (zdz _ _) (by decide)
   refine VSt.go za false [127] 200 rfl (AllP.c (ym _) AllP.n) ?_
   refine VSt.binA rfl rfl rfl rfl rfl (zob (k:=4095) (by decide)) ?_
   refine VSt.go za false [] 200 rfl (AllP.c ‹_› (AllP.c ‹_› (AllP.c (by omega) (AllP.c (by omega) (AllP.c (fun q hq=>match q,hq with | 0,_=>rfl) (AllP.c rfl (AllP.c rfl (AllP.c rfl (AllP.c (by unfold inR;(try simp only [yl]);omega) AllP.n))))))))) ?_
   have e:=zbA R k
   have es:z5x R k=⟨(zC R).getD k 0,3,a1,c2,Int.ofNat (z6Q R k (nW R) ^^^ (z6Q R k (nW R) &&& z7F (shN R k).2.2 4095)),Int.ofNat (z7F (shN R k).2.2 4095)⟩:=by
    unfold z5x zpE zpN zjS zhe
    rw [ha1,hc1,hc2]
   have hN:=congrArg List.length e
   rw [List.length_append,List.length_singleton] at hN
   refine ⟨g,?_,trivial⟩
   exact z0F (ps:=[(0,4),(1,1)]) ⟨rfl,rfl,(by repeat (first | exact zw | refine zo rfl rfl rfl ?_ | refine z2c rfl rfl z6h ?_ | refine z2c rfl rfl (AImp.acc hN.symm (fun _=>rfl)) ?_)),_,rfl,⟨rfl,BImp.acc hN.symm (fun q hq=>by rw [e];exact zbd _ _ _ (by rw [es];rfl) q hq),rfl,BImp.refl _,trivial⟩⟩
 have g:k=nM R:=by have:=nge g;omega
 subst g
 refine VSt.go za false [14] 200 rfl AllP.n ?_
 refine zf (z1K 0 rfl rfl (by (repeat (first | exact AllP.n | refine AllP.c (by first | assumption | rfl | omega | exact ym _ | (show 0<_;omega) | (show 1<_;omega) | (show 2<_;omega) | (show 3<_;omega) | (intro _ _;rfl) | (intro q hq;match q,hq with | 0,_=>rfl) | (unfold inR;(try simp only [yl]);omega)) ?_)))) ?_
 refine VSt.go za false [] 200 rfl AllP.n ?_
 refine z02 (z3H 3 6 (fS []) 74 rfl) ?_
 refine z02 (z3H 4 2 (fW []) 58 rfl) ?_
 refine VSt.loop (α :=Nat) (fun j F L=>j≤30∧F=hpF R j∧L=hpL R j) (fun j=>30 - j) 0 (z0F (ps:=[(1,1),(2,2),(3,3),(4,4)]) (F0:=hpF R 0) (L0:=hpL R 0) ⟨rfl,rfl,(by repeat (first | exact zw | refine zo rfl rfl rfl ?_)),_,rfl,⟨rfl,BImp.refl _,rfl,BImp.cells ⟨z1g,z1g,trivial⟩,rfl,BImp.refl _,rfl,BImp.refl _,trivial⟩⟩) ⟨yu _,rfl,rfl⟩ ?_
 rintro j F L ⟨hj,rfl,rfl⟩
 have hsl:=zet R j
 have hwl:=yn (zai (R:=R) j) hsl
 refine VSt.go za false [] 200 rfl AllP.n ?_
 refine VSt.cond rfl (fun g=>?_) (fun g=>?_)
 rotate_left
 ·have g:j=30:=by
   have g:¬ Int.ofNat (j+1)≤30:=of_decide_eq_false g
   simp only [yl] at g;omega
  subst g
  refine VSt.go za false [180] 200 rfl AllP.n ?_
  refine zf (z1K 3 rfl rfl (by (repeat (first | exact AllP.n | refine AllP.c (by first | assumption | rfl | omega | exact ym _ | (show 0<_;omega) | (show 1<_;omega) | (show 2<_;omega) | (show 3<_;omega) | (intro _ _;rfl) | (intro q hq;match q,hq with | 0,_=>rfl) | (unfold inR;(try simp only [yl]);omega)) ?_)))) ?_
  refine zf (z1K 4 rfl rfl (by (repeat (first | exact AllP.n | refine AllP.c (by first | assumption | rfl | omega | exact ym _ | (show 0<_;omega) | (show 1<_;omega) | (show 2<_;omega) | (show 3<_;omega) | (intro _ _;rfl) | (intro q hq;match q,hq with | 0,_=>rfl) | (unfold inR;(try simp only [yl]);omega)) ?_)))) ?_
  refine VSt.go za false [] 200 rfl AllP.n ?_
  exact ⟨rfl,_,rfl,rfl,AImp.tup ⟨AImp.agg ⟨z04 (zoi rfl),z04 (zoh rfl),trivial⟩,AImp.refl _,trivial⟩⟩
 have g:j<30:=by
  have g:Int.ofNat (j+1)≤30:=of_decide_eq_true g
  simp only [yl] at g;omega
 have hix:inR (Int.ofNat (j+1)+1):=by unfold inR;simp only [yl];omega
 refine VSt.go za false [] 200 rfl AllP.n ?_
 refine VSt.pc rfl rfl rfl rfl rfl rfl rfl rfl ((z8l (b:=(zC R).isEmpty) (l:=zC R) (n:=Int.ofNat (j+1)) (by omega))) ?_
 refine VSt.go za false [147] 200 rfl AllP.n ?_
 refine z0a 16 (iv (zZ R (j+1))) rfl (AImp.refl _) ?_
 refine VSt.go za false [] 200 rfl AllP.n ?_
 rcases z3U R (j+1) with ⟨e,_⟩ | ⟨k,e,hk,h3⟩
 ·have e1:zP R (j+1)=zP R j:=by
   show (bif decide (zZ R (j+1)<0) then zP R j else zP R j++[z5x R (zZ R (j+1)).toNat])=_
   rw [e];rfl
  have e2:zS R (j+1)=zS R j:=by
   show (bif decide (zZ R (j+1)<0) then zS R j else bif zex R (j+1) then zS R j++[⟨Int.ofNat (j+1),(zC R).getD ((zZ R (j+1)).toNat+1) 0⟩] else zS R j)=_
   rw [e];rfl
  refine VSt.cond rfl (fun q=>?_) (fun q=>absurd (of_decide_eq_false q) (by rw [e];decide))
  refine VSt.go za false [] 200 rfl (AllP.c ‹_› AllP.n) ?_
  have e3:hpL R (j+1)=hpL R j:=by unfold hpL;rw [e1,e2]
  exact ⟨j+1,hpF R (j+1),hpL R j,z0F (ps:=[(1,1),(2,2),(3,3),(4,4)]) ⟨rfl,rfl,(by repeat (first | exact zw | refine zo rfl rfl rfl ?_)),_,rfl,⟨rfl,BImp.refl _,rfl,BImp.refl _,rfl,BImp.refl _,rfl,BImp.refl _,trivial⟩⟩,⟨g,rfl,e3.symm⟩,by show 30 - (j+1)<30 - j;omega⟩
 have hkl:k<(z9j R (nM R)).length:=by rw [z5w];exact hk
 have hnth:zi (z9j R (nM R)) k=z5x R k:=by
  unfold zi z9j
  rw [zt (show k<((List.range (nM R)).map (z5x R)).length by rw [List.length_map,List.length_range];exact hk),List.getElem_map,List.getElem_range]
 have e1:zP R (j+1)=zP R j++[z5x R k]:=by
  show (bif decide (zZ R (j+1)<0) then zP R j else zP R j++[z5x R (zZ R (j+1)).toNat])=_
  rw [e];rfl
 have hN1:=congrArg List.length e1
 rw [List.length_append,List.length_singleton] at hN1
 have hsw2:zex R (j+1)=(decide (k+1<nM R)&&R.sw.contains (Int.ofNat k)):=by unfold zex;rw [e];rfl
 have e2:zS R (j+1)=bif zex R (j+1) then zS R j++[⟨Int.ofNat (j+1),(zC R).getD (k+1) 0⟩] else zS R j:=by
  show (bif decide (zZ R (j+1)<0) then zS R j else bif zex R (j+1) then zS R j++[⟨Int.ofNat (j+1),(zC R).getD ((zZ R (j+1)).toNat+1) 0⟩] else zS R j)=_
  rw [e];rfl
 refine VSt.cond rfl (fun q=>absurd (of_decide_eq_true q) (by rw [e];simp only [yl];omega)) (fun q=>?_)
 refine VSt.putC 16 (nv k) rfl (z2y e) ?_
 refine VSt.go za false [] 200 rfl (AllP.c ‹_› (AllP.c rfl (AllP.c (by omega) (AllP.c (by omega) (AllP.c (fun q hq=>match q,hq with | 0,_=>rfl) (AllP.c rfl (AllP.c rfl (AllP.c rfl (AllP.c (by unfold inR;(try simp only [yl]);omega) AllP.n))))))))) ?_
 refine zb 162 rfl (fun q1=>?_) (fun q1=>?_)
 rotate_left
 ·have q1:decide (k+1<nM R)=false:=decide_eq_false (Nat.not_lt.2 (nge (k:=k+1) q1))
  rw [hsw2,q1,Bool.false_and,cond_false] at e2
  have e2:zS R (j+1)=zS R j:=e2
  refine VSt.go za false [] 200 rfl (AllP.c ‹_› AllP.n) ?_
  have e3:hpL R (j+1)=hpM R (j+1) j:=by unfold hpL hpM;rw [e2]
  refine ⟨j+1,hpF R (j+1),hpM R (j+1) j,z0F (ps:=[(1,1),(2,2),(3,5),(4,4)]) ⟨rfl,rfl,(by repeat (first | exact zw | refine zo rfl rfl rfl ?_)),_,rfl,⟨rfl,BImp.refl _,rfl,BImp.cells ⟨AImp.acc hN1.symm (fun _=>rfl),AImp.refl _,trivial⟩,rfl,BImp.acc hN1.symm (fun q hq=>by rw [e1];exact zbd _ _ _ (by rw [hnth];rfl) q hq),rfl,BImp.refl _,trivial⟩⟩,⟨g,rfl,e3.symm⟩,by show 30 - (j+1)<30 - j;omega⟩
 have q1:k+1<nM R:=nlt (k:=k+1) q1
 have hk1:k+1<(zC R).length:=by omega
 refine VSt.go za false [] 200 rfl AllP.n ?_
 refine VSt.pc rfl rfl rfl rfl rfl rfl rfl rfl ((zhI (b:=R.swB) (l:=R.sw) (n:=Int.ofNat k) hsw)) ?_
 refine VSt.go za false [] 200 rfl AllP.n ?_
 refine VSt.cond rfl (fun q2=>?_) (fun q2=>?_)
 ·have q2:R.sw.contains (Int.ofNat k)=true:=q2
  rw [hsw2,decide_eq_true q1,q2,Bool.true_and,cond_true] at e2
  have hN2:=congrArg List.length e2
  rw [List.length_append,List.length_singleton] at hN2
  refine VSt.go za false [174] 200 rfl (AllP.c (by unfold inR;(try simp only [yl]);omega) AllP.n) ?_
  refine z0f 173 (nv (k+1)) rfl (z2y rfl) ?_
  refine VSt.go za false [] 200 rfl (AllP.c ‹_› (AllP.c rfl (AllP.c (by omega) (AllP.c (by omega) (AllP.c (fun q hq=>match q,hq with | 0,_=>rfl) (AllP.c rfl (AllP.c rfl (AllP.c rfl (AllP.c ‹_› AllP.n))))))))) ?_
  refine ⟨j+1,hpF R (j+1),hpL R (j+1),z0F (ps:=[(1,1),(2,2),(3,5),(4,6)]) ⟨rfl,rfl,(by repeat (first | exact zw | refine zo rfl rfl rfl ?_)),_,rfl,⟨rfl,BImp.refl _,rfl,BImp.cells ⟨AImp.acc hN1.symm (fun _=>rfl),AImp.acc hN2.symm (fun _=>rfl),trivial⟩,rfl,BImp.acc hN1.symm (fun q hq=>by rw [e1];exact zbd _ _ _ (by rw [hnth];rfl) q hq),rfl,BImp.acc hN2.symm (fun q hq=>by rw [e2];exact zod _ ⟨Int.ofNat (j+1),(zC R).getD (k+1) 0⟩ _ rfl q hq),trivial⟩⟩,⟨g,rfl,rfl⟩,by show 30 - (j+1)<30 - j;omega⟩
 ·have q2:R.sw.contains (Int.ofNat k)=false:=q2
  rw [hsw2,q2,Bool.and_false,cond_false] at e2
  have e2:zS R (j+1)=zS R j:=e2
  refine VSt.go za false [] 200 rfl (AllP.c ‹_› AllP.n) ?_
  have e3:hpL R (j+1)=hpM R (j+1) j:=by unfold hpL hpM;rw [e2]
  refine ⟨j+1,hpF R (j+1),hpM R (j+1) j,z0F (ps:=[(1,1),(2,2),(3,5),(4,4)]) ⟨rfl,rfl,(by repeat (first | exact zw | refine zo rfl rfl rfl ?_)),_,rfl,⟨rfl,BImp.refl _,rfl,BImp.cells ⟨AImp.acc hN1.symm (fun _=>rfl),AImp.refl _,trivial⟩,rfl,BImp.acc hN1.symm (fun q hq=>by rw [e1];exact zbd _ _ _ (by rw [hnth];rfl) q hq),rfl,BImp.refl _,trivial⟩⟩,⟨g,rfl,e3.symm⟩,by show 30 - (j+1)<30 - j;omega⟩
theorem zqD {h:Hp} (n:OkH h) (h1:h.stB=true→h.st=[]) (h2:h.swB=true→h.sw=[]):SzH h:=by
 refine ⟨by have:=n.st;omega,by have:=n.sw;omega,fun k hk=>?_,h1,h2⟩
 have b:=(n.ok k hk).bit
 have b1:=b.h1;have b2:=b.h2;have b3:=b.u1;have b4:=b.u2
 refine ⟨?_,?_⟩
 ·unfold inR;rw [b1];simp only [yl];omega
 ·unfold inR;rw [b3];simp only [yl];omega
theorem zqE {h:Hp} (n:OkH h):ppE h 3=0:=by
 unfold ppE
 rw [if_pos (zfp n)];rfl
theorem zrH (l:List Int):eL l=z1V l.isEmpty l:=rfl
def kV (k:Int×Int):Value:=.agg #[.int .i64 k.1,.int .i64 k.2]
abbrev y9:=List ((Int×Int)×Int)
def z5S (c:y9):List (Value×Value):=c.map fun x=>(kV x.1,.int .i64 x.2)
def eqK (a b:Int×Int):Bool:=(a.1==b.1)&&((a.2==b.2)&&true)
theorem eqK_iff {a b:Int×Int}:eqK a b=true ↔ a=b:=by
 unfold eqK
 rw [Bool.and_true,yw,beq_iff_eq,beq_iff_eq]
 exact ⟨fun h=>Prod.ext h.1 h.2,fun h=>⟨congrArg Prod.fst h,congrArg Prod.snd h⟩⟩
def z5c (k:Int×Int):y9→Nat→Option (Nat×Int)
 | [],_=>none
 | x::c,i=>bif eqK k x.1 then some (i,x.2) else z5c k c (i+1)
def z3Q (c:y9) (k:Int×Int):Int:=((z5c k c 0).map (·.2)).getD 0
def zl1 (c:y9) (k:Int×Int):Nat:=((z5c k c 0).map (·.1)).getD c.length
noncomputable def zfA (c:y9) (k:Int×Int):y9:=Option.rec (c++[(k,0)]) (fun _=>c) (z5c k c 0)
theorem zpt (a b:Int×Int):z2e (sE r) 58 (kV a) (kV b)=some (eqK a b):=by
 have e:z2e (sE r) 58 (kV a) (kV b)=ob (gd (decide (IntKind.i64=IntKind.i64)) (some (a.1==b.1))) fun p=>ob (ob (gd (decide (IntKind.i64=IntKind.i64)) (some (a.2==b.2))) fun p=>ob (some true) fun q=>some (p&&q)) fun q=>some (p&&q):=by
  obtain ⟨t,q⟩:=r
  cases q <;> kernel_rfl
 rw [e];rfl
theorem ziY (k:Int×Int):∀ (c:y9) (i:Nat),z5k (sE r) 58 (kV k) (z5S c) i=some ((z5c k c i).map fun q=>(q.1,.int .i64 q.2))
 | [],_=>rfl
 | x::c,i=>by
  show ob (z2e (sE r) 58 (kV k) (kV x.1)) _=_
  rw [zpt]
  show bf (eqK k x.1) (some (some (i,Value.int .i64 x.2))) (z5k (sE r) 58 (kV k) (z5S c) (i+1))=some ((bif eqK k x.1 then some (i,x.2) else z5c k c (i+1)).map _)
  rw [ziY k c (i+1)]
  cases eqK k x.1 <;> rfl
def zeX (c:y9):VB:=.itr (some (.map (z5S c)))
theorem zhQ {S:St} {Z:Nat→Prop} {j:Nm} {a b:Int} {v:Value} (h:VR (sE r) S Z j (.agg [iv a,iv b]) v):v=kV (a,b):=by
 cases h with
 | agg hs h =>
  rename_i vs
  unfold kV
  congr 1
  apply Array.ext'
  generalize vs.toList=l at h
  cases h with
  | cons h1 h=>cases h with
   | cons h2 h =>
    cases h
    cases h1 with
    | p h1=>cases h1;cases h2 with
     | p h2=>cases h2;rfl
theorem zaF {S:St} {Z:Nat→Prop} {j:Nm} {L:VS} {i X:Nat} {c:y9} (hS:SR (sE r) S Z j L) (hb:bk L i=some (zeX c)) (hj:j i=some X):S.heap.get X=some (.map (z5S c)):=by
 obtain ⟨b,h1,h2⟩:=hS.blk i _ hb (fun h=>h)
 rw [hj] at h1;cases h1
 exact h2
section
variable {N:Nat} {st:List Nat} {rd:Option Nat} {Q:zK} {F:VK} {L:VS}
theorem zif {x k:Operand} {i:Nat} {a b:Int} {c:y9} (hx:av F x=some (.map i)) (hk:av F k=some (.agg [iv a,iv b])) (hb:bk L i=some (zeX c)):PureA (sE r) F L (.lookup 82 x k false) (iv (z3Q c (a,b))):=fun T S Z j hS hF=>by
 obtain ⟨v,h1,h2⟩:=hF.ev hx
 obtain ⟨w,h3,h4⟩:=hF.ev hk
 have hw:=zhQ h4
 subst hw
 cases h2 with
 | map hj =>
  have hm:=zaF hS hb hj
  refine ⟨.int .i64 (z3Q c (a,b)),fun cF dF=>?_,.p (.int _ _)⟩
  show zG S (ob (T.ev x) fun m=>ob (T.ev k) fun i=>z0n (sE r) 82 m i false S)=_
  rw [h1,h3]
  rename_i X
  have e:z0n (sE r) 82 (.map (some X)) (kV (a,b)) false S=ob (ob (S.heap.get X) z8x) fun es=>gd true (ob (z5k (sE r) 58 (kV (a,b)) es 0) fun r=>some ((r.map (·.2)).getD (.int .i64 0))):=by
   obtain ⟨t,q⟩:=r
   cases q <;> kernel_rfl
  show zG S (z0n (sE r) 82 (.map (some X)) (kV (a,b)) false S)=_
  rw [e,hm]
  show zG S (ob (z5k (sE r) 58 (kV (a,b)) (z5S c) 0) fun r=>some ((r.map (·.2)).getD (.int .i64 0)))=_
  rw [ziY]
  unfold z3Q
  cases z5c (a,b) c 0 <;> rfl
theorem zgA {ops:Array Oper} {bs:List Nat} {ks:List (Nat×Option Nat)} {i:Nat} {o:Oper} {rest:List Oper} {K:List KI} {x k:Operand} {a b:Int} {c:y9} (at_:Nat) (hg:vgl ops F o.guard=some true) (hd:zI o.dst N=true) (hop:o.op = .mapEntry 82 x k) (hks:(at_,none)∈ks) (hc:zmN ops bs F at_ i o.op=true)
  (hx:av F x=some (.map at_)) (hk:av F k=some (.agg [iv a,iv b])) (hb:bk L at_=some (zeX c))
  (h:VSt.H (sE r) N st rd Q (.dops ops bs ks rest (i+1) K (zL o.dst (.tup [iv (z3Q c (a,b)),nv (zl1 c (a,b))]) F) (up L at_ (zeX (zfA c (a,b)))))):VSt.H (sE r) N st rd Q (.dops ops bs ks (o::rest) i K F L):=by
 refine zjG at_ hg hd hks hc (fun T S Z j hS hF hl=>?_) h
 obtain ⟨v,h1,h2⟩:=hF.ev hx
 obtain ⟨w,h3,h4⟩:=hF.ev hk
 have hw:=zhQ h4
 subst hw
 cases h2 with
 | map hj =>
  rename_i X
  have hm:=zaF hS hb hj
  rw [hop]
  refine ⟨.tuple #[.int .i64 (z3Q c (a,b)),.int .i64 (Int.ofNat (zl1 c (a,b)))],S.put X (.map (z5S (zfA c (a,b)))),X,hj,?_,fun cF dF=>?_,?_,hS.put hb hj (z0q (S:=S) (o:=.map (z5S (zfA c (a,b))))),hF.mono' (z07 hS hj _) (fun _ _ h=>h),Ex.put hS hj _,yn (Nat.min_le_right _ _) hl⟩
  ·show ob (T.ev x) z3M=_
   rw [h1];rfl
  ·show ob (T.ev x) (fun m=>ob (T.ev k) fun k=>z7f (sE r) 82 m k S)=_
   rw [h1,h3]
   have e:z7f (sE r) 82 (.map (some X)) (kV (a,b)) S=ob (ob (S.heap.get X) z8x) fun es=>ob (z5k (sE r) 58 (kV (a,b)) es 0) fun f =>
     Option.rec (some (Value.tuple #[.int .i64 0,.int .i64 es.length],S.put X (.map (es++[(kV (a,b),.int .i64 0)])))) (fun q=>some (.tuple #[q.2,.int .i64 q.1],S.put X (.map es))) f:=by
    obtain ⟨t,q⟩:=r
    cases q <;> kernel_rfl
   show z7f (sE r) 82 (.map (some X)) (kV (a,b)) S=_
   rw [e,hm]
   show ob (z5k (sE r) 58 (kV (a,b)) (z5S c) 0) _=_
   rw [ziY]
   unfold z3Q zl1 zfA
   cases z5c (a,b) c 0 with
   | some q=>rfl
   | none =>
    show some (Value.tuple #[.int .i64 0,.int .i64 (z5S c).length],S.put X (.map (z5S c++[(kV (a,b),.int .i64 0)])))=some (Value.tuple #[.int .i64 0,.int .i64 (Int.ofNat c.length)],S.put X (.map (z5S (c++[((a,b),0)]))))
    unfold z5S
    rw [List.length_map,List.map_append];rfl
  ·exact .tup (.cons (.p (.int _ _)) (.cons (.p (.int _ _)) .nil))
theorem zgz {ops:Array Oper} {bs:List Nat} {ks:List (Nat×Option Nat)} {i:Nat} {o:Oper} {rest:List Oper} {K:List KI} {x s y:Operand} {n:Int} {q:Nat} {k:Int×Int} {m:Int} {c:y9} (at_:Nat) (hg:vgl ops F o.guard=some true) (hd:zI o.dst N=true) (hu:uni bs i=true) (hop:o.op = .entryStore 82 x s y)
  (hx:av F x=some (.map at_)) (hs:av F s=some (nv q)) (hy:av F y=some (iv n)) (hb:bk L at_=some (zeX c)) (hq:c[q]? = some (k,m))
  (h:VSt.H (sE r) N st rd Q (.dops ops bs ks rest (i+1) K (zL o.dst .junk F) (up L at_ (zeX (c.set q (k,n)))))):VSt.H (sE r) N st rd Q (.dops ops bs ks (o::rest) i K F L):=by
 refine zjF hg hd hu (fun T S Z j hS hF hl=>?_) h
 obtain ⟨v,h1,h2⟩:=hF.ev hx
 obtain ⟨w,h3,h4⟩:=hF.ev hs
 obtain ⟨u,h5,h6⟩:=hF.ev hy
 cases h4 with
 | p h4 =>
  cases h4
  cases h6 with
  | p h6 =>
   cases h6
   cases h2 with
   | map hj =>
    rename_i X
    have hm:=zaF hS hb hj
    rw [hop]
    refine ⟨undef,S.put X (.map (z5S (c.set q (k,n)))),j,fun cF dF=>?_,.junk _,hS.put hb hj (z0q (S:=S) (o:=.map (z5S (c.set q (k,n))))),hF.mono' (z07 hS hj _) (fun _ _ h=>h),Ex.put hS hj _,yn (Nat.min_le_right _ _) hl,fun _ _ h=>h⟩
    show ob (T.ev x) (fun m=>ob (T.ev s) fun s=>ob (T.ev y) fun v=>ob (z2C m s v S) fun S'=>some (undef,S'))=_
    rw [h1,h3,h5]
    show ob (ob (ob (S.heap.get X) z8x) fun es=>ob es[q]? fun p=>some (S.put X (.map (es.set q (p.1,.int .i64 n))))) (fun S'=>some (undef,S'))=_
    rw [hm]
    show ob (ob (z5S c)[q]? fun p=>some (S.put X (.map ((z5S c).set q (p.1,.int .i64 n))))) (fun S'=>some (undef,S'))=_
    have e:(z5S c)[q]? = some (kV k,.int .i64 m):=by
     unfold z5S
     rw [List.getElem?_map,hq];rfl
    rw [e]
    show some (undef,S.put X (.map ((z5S c).set q (kV k,.int .i64 n))))=_
    unfold z5S
    rw [List.map_set]
theorem zlz {ops:Array Oper} {o:Oper} {rest:List Oper} {K:List KI} {t:Nat} {x:Option Operand} (i:Nat) (hi:bk L i=none) (hg:vgl ops F o.guard=some true) (hd:zI o.dst N=true) (hop:o.op = .makeMap t x) (hx:x=none)
  (h:VSt.H (sE r) N st rd Q (.ops ops rest K (zL o.dst (.map i) F) ((i,zeX [])::L))):VSt.H (sE r) N st rd Q (.ops ops (o::rest) K F L):=by
 refine z6b hg hd (fun T S Z j hS hF hl=>?_) h
 subst hx
 rw [hop]
 have hle:=z5R hS hi S.size
 refine ⟨.map (some S.size),S.new (.map []),ext j i S.size,fun cF dF=>rfl,.map (z0m j i S.size),SR.newAt hi hS (by show (S.new (.map [])).heap.get S.size=_;rw [z0j,if_pos rfl];rfl),hF.mono' (z0d hS _) hle,Ex.newAt i _,Nat.le_succ_of_le hl,hle⟩
end
section
variable {E:Env} {N:Nat} {st:List Nat} {rd:Option Nat} {Q:zK}
theorem zjJ {ti:Nat} {b:Code} {K:List KI} {F:VK} {L:VS} (n s at_:Nat) (kept:List Nat) (v:Nat→VB) (P:Nat→Prop)
  (hk:(kept.all fun t=>!Nat.beq ti t&&Option.rec false (fun _=>true) (ak F t))=true)
  (hi:ak F ti=some (nv s)) (hb0:bk L at_=some (v 0)) (hP:P 0)
  (hb:∀ k,k≤n→P k→VSt.H E N st rd Q (.code b (.inv (fun F' L'=>k<n∧Vw E st F' L' ((ti,nv (s+(k+1)))::(kept.filterMap fun t=>(ak F t).map (Prod.mk t))) (up L at_ (v (k+1)))∧P (k+1))::K) ((ti,nv (s+k))::(kept.filterMap fun t=>(ak F t).map (Prod.mk t))) (up L at_ (v k)))) :
  VSt.H E N st rd Q (.code (.loop b) K F L):=by
 have hmem:∀ p∈(kept.filterMap fun t=>(ak F t).map (Prod.mk t)),p.1∈kept∧ak F p.1=some p.2:=by
  intro p hp
  obtain ⟨t,h1,h2⟩:=List.mem_filterMap.1 hp
  cases ha:ak F t with
  | none=>rw [ha] at h2;cases h2
  | some a=>rw [ha] at h2;cases h2;exact ⟨h1,ha⟩
 refine VSt.loop (α :=Nat) (fun k F' L'=>k≤n∧P k∧F'=((ti,nv (s+k))::(kept.filterMap fun t=>(ak F t).map (Prod.mk t)))∧L'=up L at_ (v k)) (fun k=>n - k) 0 (F0:=((ti,nv (s+0))::(kept.filterMap fun t=>(ak F t).map (Prod.mk t)))) (L0:=L) (Vw.sub fun p hp=>?_) ⟨yu _,hP,rfl,(zhd hb0).symm⟩ ?_
 ·rcases List.mem_cons.1 hp with e | hp
  ·rw [e];exact hi
  ·exact (hmem _ hp).2
 ·rintro k F' L' ⟨h1,h2,rfl,rfl⟩
  refine VW.mono (hb k h1 h2) fun e F2 L2 hq=>?_
  cases e with
  | normal =>
   obtain ⟨g1,g2,g3⟩:=hq
   exact ⟨k+1,_,_,g2,⟨g1,g3,rfl,rfl⟩,by omega⟩
  | ret=>exact hq
  | exit k=>exact hq
end
noncomputable def zge (c:y9) (k:Int×Int):y9:=(zfA c k).set (zl1 c k) (k,z3Q c k+1)
theorem z5E {k:Int×Int}:∀ (c:y9) (i:Nat),z5c k c i=(z5c k c 0).map fun q=>(q.1+i,q.2)
 | [],_=>rfl
 | x::c,i=>by
  show (bif eqK k x.1 then some (i,x.2) else z5c k c (i+1))=(bif eqK k x.1 then some (0,x.2) else z5c k c 1).map _
  rw [z5E c (i+1),z5E c 1]
  cases eqK k x.1 with
  | true=>show some (i,x.2)=some (0+i,x.2);rw [Nat.zero_add]
  | false =>
   show (z5c k c 0).map _=((z5c k c 0).map _).map _
   rw [Option.map_map]
   congr 1
   funext q
   show (q.1+(i+1),q.2)=(q.1+1+i,q.2)
   rw [Nat.add_assoc,Nat.add_comm 1 i]
theorem z8o {k:Int×Int}:∀ {c:y9} {q:Nat×Int},z5c k c 0=some q→c[q.1]? = some (k,q.2)
 | [],q,h=>by cases h
 | x::c,q,h=>by
  have h:(bif eqK k x.1 then some (0,x.2) else z5c k c 1)=some q:=h
  cases he:eqK k x.1 with
  | true =>
   rw [he] at h;cases h
   have:=eqK_iff.1 he
   show some x=some (k,x.2)
   rw [this]
  | false =>
   rw [he,cond_false,z5E c 1] at h
   cases hp:z5c k c 0 with
   | none=>rw [hp] at h;cases h
   | some q' =>
    rw [hp] at h;cases h
    show c[q'.1]? = _
    exact z8o hp
theorem zav {k:Int×Int}:∀ {c:y9},z5c k c 0=none→∀ x∈c,x.1≠k
 | [],_,x,hx=>by cases hx
 | y::c,h,x,hx=>by
  have h:(bif eqK k y.1 then some (0,y.2) else z5c k c 1)=none:=h
  cases he:eqK k y.1 with
  | true=>rw [he] at h;cases h
  | false =>
   rw [he,cond_false,z5E c 1] at h
   have hp:z5c k c 0=none:=by
    cases hp:z5c k c 0 with
    | none=>rfl
    | some q=>rw [hp] at h;cases h
   rcases List.mem_cons.1 hx with rfl | hx
   ·intro e
    rw [eqK_iff.2 e.symm] at he;cases he
   ·exact zav hp x hx
theorem zq3 (c:y9) (k:Int×Int):(zfA c k)[zl1 c k]? = some (k,z3Q c k):=by
 unfold zfA zl1 z3Q
 cases hp:z5c k c 0 with
 | some q=>exact z8o hp
 | none =>
  show (c++[(k,0)])[c.length]? = some (k,0)
  rw [List.getElem?_append_right (ym _),Nat.sub_self];rfl
def Bnd (c:y9) (m:Nat):Prop:=(∀ x∈c,0≤x.2∧x.2≤Int.ofNat m)∧c.length≤m
theorem ziM {c:y9} {m:Nat} (h:Bnd c m) (k:Int×Int):0≤z3Q c k∧z3Q c k≤Int.ofNat m:=by
 unfold z3Q
 cases hp:z5c k c 0 with
 | none=>exact ⟨Int.le_refl 0,Int.natCast_nonneg m⟩
 | some q=>exact h.1 _ (List.mem_of_getElem? (z8o hp))
theorem znF {c:y9} {m:Nat} (h:Bnd c m) (k:Int×Int):Bnd (zge c k) (m+1):=by
 have hg:=ziM h k
 have ha:∀ x∈zfA c k,0≤x.2∧x.2≤Int.ofNat m:=by
  unfold zfA
  cases hp:z5c k c 0 with
  | some q=>exact h.1
  | none =>
   intro x hx
   rcases List.mem_append.1 (show x∈c++[(k,0)] from hx) with hx | hx
   ·exact h.1 x hx
   ·rw [List.mem_singleton.1 hx]
    exact ⟨Int.le_refl 0,Int.natCast_nonneg m⟩
 have hl:(zfA c k).length≤c.length+1:=by
  unfold zfA
  cases hp:z5c k c 0 with
  | some q=>exact Nat.le_succ _
  | none=>show (c++[(k,0)]).length≤_;rw [List.length_append];exact ym _
 refine ⟨fun x hx=>?_,?_⟩
 ·rcases List.mem_or_eq_of_mem_set hx with hx | rfl
  ·have:=ha x hx
   simp only [yl] at *;omega
  ·simp only [yl] at *;omega
 ·unfold zge
  rw [List.length_set]
  have:=h.2
  omega
def y7 (ids:List Int):List (Int×Int):=ids.zip ids.tail
noncomputable def z9Z (c:y9) (l:List (Int×Int)):y9:=l.foldl zge c
theorem zdY:∀ {l:List (Int×Int)} {c:y9} {m:Nat},Bnd c m→Bnd (z9Z c l) (m+l.length)
 | [],c,m,h=>h
 | k::l,c,m,h=>by
  have:=zdY (l:=l) (znF h k)
  show Bnd (z9Z (zge c k) l) (m+(l.length+1))
  rw [show m+(l.length+1)=m+1+l.length by omega];exact this
theorem zib (ids:List Int):(y7 ids).length=ids.length - 1:=by
 unfold y7
 rw [List.length_zip,List.length_tail];omega
theorem zph {ids:List Int} {k:Nat} (h:k+1<ids.length):(y7 ids)[k]? = some (ids.getD k 0,ids.getD (k+1) 0):=by
 unfold y7
 rw [List.getElem?_eq_getElem (by rw [List.length_zip,List.length_tail];omega),List.getElem_zip,List.getElem_tail,zt (by omega),zt h]
theorem zlf {c:y9} {l:List (Int×Int)} {k:Nat} {x:Int×Int} (h:l[k]? = some x):z9Z c (l.take (k+1))=zge (z9Z c (l.take k)) x:=by
 unfold z9Z
 rw [List.take_add_one,h,List.foldl_append];rfl
noncomputable def zr3 (rows:List (List Int)):y9:=rows.foldl (fun c ids=>z9Z c (y7 ids)) []
noncomputable def zcC (h:Hp) (p:Int) (q:Nat):y9:=zr3 (((zu h p).take q).map (zT h p))
theorem zcB {h:Hp} {p:Int} {q:Nat} {row:List Nat} (hq:(zu h p)[q]? = some row):zcC h p (q+1)=z9Z (zcC h p q) (y7 (zT h p row)):=by
 unfold zcC zr3
 rw [List.take_add_one,hq,List.map_append,List.foldl_append];rfl
theorem zaZ {h:Hp} {p:Int} (hO:OkH h):∀ q,Bnd (zcC h p q) (q*7)
 | 0=>⟨fun x hx=>(by cases hx),ym _⟩
 | q+1=>by
  have ih:=zaZ (p:=p) hO q
  cases hq:(zu h p)[q]? with
  | none =>
   have e:zcC h p (q+1)=zcC h p q:=by
    unfold zcC
    rw [List.take_add_one,hq];simp
   rw [e]
   exact ⟨fun x hx=>⟨(ih.1 x hx).1,Int.le_trans (ih.1 x hx).2 (by simp only [yl];omega)⟩,by have:=ih.2;omega⟩
  | some row =>
   rw [zcB hq]
   have h1:=zdY (l:=y7 (zT h p row)) ih
   have h2:=zib (zT h p row)
   have h3:(zT h p row).length≤7:=by
    unfold zT
    rw [List.length_map,z0x,zdO _ (List.mem_filter.1 (List.mem_of_getElem? hq)).1]
    have:=z3G hO p
    show (zJ h.st p).length+0≤7
    omega
   exact ⟨fun x hx=>⟨(h1.1 x hx).1,Int.le_trans (h1.1 x hx).2 (by simp only [yl];omega)⟩,by have:=h1.2;omega⟩
def prX (c:y9) (q:Nat):VS:=[(12,.cells [.map 14] 82),(13,.cells [nv q] 3),(14,zeX c)]
set_option maxHeartbeats 8000000 in
theorem zeK {h:Hp} {p:Int} (hz:SzH h) (hO:OkH h):VC (sE r) [] 75 [.agg ((eHp h).map .p),iv p] [] (fun a L'=>a = .tup [.map 0,nv (zu h p).length]∧L'=[(1,.cells [.map 0] 82),(2,.cells [nv (zu h p).length] 3),(0,zeX (zcC h p (zu h p).length))]):=by
 have hol:=zeL hO p
 refine z7o (fn:=Tryz.f75) za (zD rfl) (by kernel_rfl) rfl rfl ?_
 refine VSt.go za false [10] 200 rfl AllP.n ?_
 refine zf (z00 0 (eHp h) rfl rfl) ?_
 refine zlz 14 rfl rfl rfl rfl rfl ?_
 refine VSt.go za false [] 200 rfl AllP.n ?_
 refine VSt.pc rfl rfl rfl rfl rfl rfl rfl rfl ((z5H (h:=h) (p:=p))) ?_
 refine VSt.go za false [] 200 rfl AllP.n ?_
 refine z02 (Vw.kp [6,7,13] [(12,15),(13,16),(14,14)] rfl) ?_
 refine z14 10 [10,12,13,14] rfl rfl rfl rfl rfl
  (z4t hz hO [12,13,14] (fun q X=>X=prX (zcC h p q) q) (fun _ _=>False)
   (fun i hi=>by show bk [(12,_),(13,_),(14,_)] i=none;rw [zA,if_neg (by omega),zA,if_neg (by omega),zA,if_neg (by omega)];rfl) rfl rfl ?_) (fun a L' ha=>?_)
 ·rintro q row g lpi X hq hn hg rfl
  have hql:q<(zu h p).length:=(List.getElem?_eq_some_iff.1 hq).1
  have hb7:=z3G hO p
  have hbq:=zaZ (p:=p) hO q
  have hil:(zT h p row).length=row.length:=by unfold zT;rw [List.length_map,z0x]
  have hnl:=zib (zT h p row)
  unfold zkt z6u
  refine zg za false [] 200 rfl AllP.n ?_
  refine ⟨rfl,_,rfl,?_⟩
  refine zg za false [] 200 rfl (AllP.c (by unfold inR;(try simp only [yl]);omega) AllP.n) ?_
  refine zjJ (ti:=9) ((zT h p row).length - 1) 1 14 [6,7,8] (fun k=>zeX (z9Z (zcC h p q) ((y7 (zT h p row)).take k))) (fun _=>True) rfl rfl rfl trivial (fun k hk _=>?_)
  refine zg za false [] 200 rfl AllP.n ?_
  refine VSt.cond rfl (fun g1=>?_) (fun g1=>?_)
  ·have g1:1+k<(zJ h.st p).length:=nlt (k:=1+k) g1
   have hid:∀ i,i<row.length→(zT h p row).getD i 0=(g i).id:=fun i hi=>by
    rw [hg i hi]
    unfold zT
    rw [zt (show i<((zQ (zJ h.st p) row).map (·.id)).length by rw [List.length_map,z0x];exact hi),List.getElem_map]
    unfold zi
    rw [zt]
   have hx:(y7 (zT h p row))[k]? = some ((g k).id,(g (1+k)).id):=by
    rw [zph (by omega),hid k (by omega),hid (k+1) (by omega),Nat.add_comm k 1]
   have hbk:=zdY (l:=(y7 (zT h p row)).take k) hbq
   have hlk:((y7 (zT h p row)).take k).length≤k:=List.length_take_le _ _
   have hgb:=ziM hbk ((g k).id,(g (1+k)).id)
   have hin:inR (z3Q (z9Z (zcC h p q) ((y7 (zT h p row)).take k)) ((g k).id,(g (1+k)).id)+1):=by
    unfold inR
    simp only [yl] at hgb
    omega
   have hlt1:k<(zJ h.st p).length:=by omega
   rw [show z9Z (zcC h p q) ((y7 (zT h p row)).take (k+1))=zge (z9Z (zcC h p q) ((y7 (zT h p row)).take k)) ((g k).id,(g (1+k)).id) from zlf hx]
   generalize z9Z (zcC h p q) ((y7 (zT h p row)).take k)=c at *
   refine zg za false [27] 200 rfl (AllP.c (by unfold inR;(try simp only [yl]);omega) AllP.n) ?_
   refine z0f 26 (nv k) rfl (z2y (by simp only [yl];omega)) ?_
   refine zg za false [36] 200 rfl (AllP.c ‹_› (AllP.c rfl (AllP.c (by omega) (AllP.c rfl (AllP.c ‹_› (AllP.c rfl (AllP.c (by omega) (AllP.c rfl AllP.n)))))))) ?_
   refine z0f 35 (.agg [iv (g k).id,iv (g (1+k)).id]) rfl (show AImp (.agg [iv (g (0+k)).id,iv (g (0+(1+k))).id]) _ from z04 (by rw [Nat.zero_add,Nat.zero_add])) ?_
   refine zoj rfl rfl (zif (a:=(g k).id) (b:=(g (1+k)).id) (c:=c) rfl rfl rfl) ?_
   refine zg za false [38] 200 rfl (AllP.c ‹_› AllP.n) ?_
   refine zgA (a:=(g k).id) (b:=(g (1+k)).id) (c:=c) 14 rfl rfl rfl (by
    repeat refine znx rfl ?_
    exact zlY (v:=zeX c) rfl rfl rfl) rfl rfl rfl rfl ?_
   refine zg za false [] 1 rfl (by (repeat (first | exact AllP.n | refine AllP.c (by first | assumption | rfl | omega | exact ym _ | (show 0<_;omega) | (show 1<_;omega) | (show 2<_;omega) | (show 3<_;omega) | (intro _ _;rfl) | (intro q hq;match q,hq with | 0,_=>rfl) | (unfold inR;(try simp only [yl]);omega)) ?_))) ?_
   refine zgz (n:=z3Q c ((g k).id,(g (1+k)).id)+1) (q:=zl1 c ((g k).id,(g (1+k)).id)) (c:=zfA c ((g k).id,(g (1+k)).id)) 14 rfl rfl rfl rfl rfl rfl rfl rfl (zq3 c _) ?_
   refine zg za false [] 200 rfl (AllP.c (by unfold inR;(try simp only [yl]);omega) AllP.n) ?_
   refine ⟨by omega,?_,trivial⟩
   (refine Vw.sub' (z9h (by repeat (first | exact z0v | refine z0J rfl ?_))))
  ·have g1:¬ 1+k<(zJ h.st p).length:=Nat.not_lt.2 (nge (k:=1+k) g1)
   have e:(y7 (zT h p row)).take k=y7 (zT h p row):=List.take_of_length_le (by omega)
   rw [e,←zcB hq]
   refine zg za false [] 200 rfl AllP.n ?_
   exact .inl ⟨rfl,[],_,Vw.sub' (z9h z0v),rfl⟩
 ·rcases ha with ⟨lp,g1,X,rfl,rfl,rfl⟩ | ⟨lp,g1,X,e,G3,he,rfl,rfl,hJ⟩
  refine ⟨_,_,_,.normal,_,_,_,_,rfl,rfl,rfl,?_⟩
  refine zg za false [] 1 rfl (by (repeat (first | exact AllP.n | refine AllP.c (by first | assumption | rfl | omega | exact ym _ | (show 0<_;omega) | (show 1<_;omega) | (show 2<_;omega) | (show 3<_;omega) | (intro _ _;rfl) | (intro q hq;match q,hq with | 0,_=>rfl) | (unfold inR;(try simp only [yl]);omega)) ?_))) ?_
  refine z02 (z0F (ps:=[(1,12),(2,13),(0,14)]) (F0:=[(6,.ref 1 0),(7,.ref 2 0)]) (L0:=[(1,.cells [.map 0] 82),(2,.cells [nv (zu h p).length] 3),(0,zeX (zcC h p (zu h p).length))]) ⟨rfl,rfl,(by repeat (first | exact zw | refine zo rfl rfl rfl ?_)),_,rfl,⟨rfl,BImp.refl _,rfl,BImp.refl _,rfl,BImp.refl _,trivial⟩⟩) ?_
  refine VSt.go za false [] 200 rfl AllP.n ?_
  exact ⟨rfl,_,rfl,rfl,rfl⟩
section
variable {E:Env} {N:Nat} {st:List Nat} {rd:Option Nat} {Q:zK} {F:VK} {L:VS}
def zq5 (E:Env) (F:VK) (L:VS) (o:Op) (a:AV):Prop:=∀ T S Z j,SR E S Z j L→FRR E S Z j F T→S.low≤S.size→∃ v S' Z' n,(∀ k,n≤k→zR E (Proofs.YtdpipdniklognaaGreat.run E k).call (Proofs.YtdpipdniklognaaGreat.run E k).code T S o=some (v,S'))∧SR E S' Z' j L∧ZLe E S Z S' Z'∧Ex S Z j S' Z' j∧S'.low≤S'.size∧S'.low=S.low∧VR E S' Z' j a v
theorem zjH {ops:Array Oper} {o:Oper} {rest:List Oper} {K:List KI} {a:AV} (hg:vgl ops F o.guard=some true) (hd:zI o.dst N=true) (hv:zq5 E F L o.op a) (h:VSt.H E N st rd Q (.ops ops rest K (zL o.dst a F) L)):VSt.H E N st rd Q (.ops ops (o::rest) K F L):=by
 intro T S Z j h1 h2 h3 h4
 obtain ⟨u,S',Z',n0,h5,a1,a2,a3,a4,_,h6⟩:=hv T S Z j h2 h3 h4
 obtain ⟨T',h7,h8,h9⟩:=z0I h1 (h3.mono' a2 fun _ _ h=>h) hd h6
 have s1:∀ m,n0≤m→zq E (Proofs.YtdpipdniklognaaGreat.run E m).call (Proofs.YtdpipdniklognaaGreat.run E m).code ops o T S=some (T',S'):=fun m hm=>by
  unfold zq
  rw [z1r (z1q hg) h3]
  show ob (zR E _ _ T S o.op) (z3P T o.dst)=_
  rw [h5 m hm]
  show ob (T.put o.dst u) _=_
  rw [h7];rfl
 obtain ⟨n,r,q1,F2,L2,Z2,j2,q2,q3⟩:=h T' S' Z' j h8 a1 h9 a4
 refine ⟨n0+n,r,fun m hm=>?_,F2,L2,Z2,j2,⟨q2.n,q2.sr,q2.fr,a3.trans q2.ex,q2.low,q2.stay⟩,q3⟩
 show ob (zq E _ _ ops o T S) _=_
 rw [s1 m (by omega)]
 exact q1 m (by omega)
end
def atC (c:y9) (n:Int):List (Int×Int):=z4b ((c.filter fun x=>decide (n≤x.2)).map (·.1))
def zaj (l:List (Int×Int)):List Sew:=l.map fun x=>⟨x.1,x.2⟩
theorem zfk:∀ {l:List (Int×Int)} {k:Nat},k<l.length→cut (z1U l) (0+k*2) 2=some (z9o (l.getD k (0,0)))
 | [],k,h=>absurd h (Nat.not_lt_zero k)
 | x::l,k,h=>by
  have hl:(z1U (x::l)).length=(l.length+1)*2:=z4f _
  have h:k<l.length+1:=h
  rw [z0D (by rw [hl];omega)]
  cases k with
  | zero=>rfl
  | succ k =>
   have ih:=zfk (l:=l) (k:=k) (by omega)
   rw [z0D (by rw [z4f];omega)] at ih
   have e:z1U (x::l)=Value.int .i64 x.1::Value.int .i64 x.2::z1U l:=rfl
   rw [e,show 0+(k+1)*2=0+k*2+1+1 by omega,List.drop_succ_cons,List.drop_succ_cons]
   exact ih
theorem zmO {l:List (Int×Int)} {k:Nat} (h:k<l.length):zB (zaj l) k=⟨(l.getD k (0,0)).1,(l.getD k (0,0)).2⟩:=by
 unfold zB zaj
 rw [zt (show k<(l.map fun x=>(⟨x.1,x.2⟩:Sew)).length by rw [List.length_map];exact h),List.getElem_map,zt h]
theorem zjw {F:VK} {L:VS} {cl:Call} {f:Operand} {i m:Nat} {n:Int} {c:y9} (hc:cl.callee = .value f) (hf:av F f=some (.fn 63 [] [])) (ha:avs F cl.args.toList=some [.map i,iv n]) (hb:bk L i=some (zeX c)) (hB:Bnd c m) (hm:m≤1000000):zq5 (sE r) F L (.call cl) (.p (eLW (zaj (atC c n)))):=by
 intro T S Z j hS hF hl
 obtain ⟨v,k1,k2⟩:=hF.ev hf
 obtain ⟨vs,k3,k4⟩:=hF.evs ha
 cases k2 with
 | fn q1 q2 =>
  rename_i fa ca
  have e1:fa.toList=[]:=by
   generalize fa.toList=l at q1
   cases q1;rfl
  have e2:ca.toList=[]:=by
   generalize ca.toList=l at q2
   cases q2;rfl
  cases k4 with
  | cons h1 hl1=>cases hl1 with
   | cons h2 hl2 =>
    cases hl2
    cases h1 with
    | map hj =>
     rename_i X
     cases h2 with
     | p h2 =>
      cases h2
      have hmb:=zaF hS hb hj
      have hall:((z5S c).all fun p=>z5g p.1&&z7b p.2)=true:=by
       rw [List.all_eq_true]
       intro q hq
       obtain ⟨x,_,rfl⟩:=List.mem_map.1 hq
       rfl
      have hlen:Nat.ble (z5S c).length 1000000=true:=z3m (by unfold z5S;rw [List.length_map];exact yn hB.2 hm)
      have hL:z4b (((z5S c).filter fun p=>decide (n≤z7p p.2)).map fun p=>z3W p.1)=atC c n:=by
       unfold atC z5S
       rw [List.filter_map,List.map_map];rfl
      have key:∀ k,(Proofs.YtdpipdniklognaaGreat.run (sE r) (k+1)).call 63 [.map (some X),.int .i64 n] S=bf (Nat.beq (atC c n).length 0) (some (.slice none 0 0,S)) (some (.slice (some ⟨S.size,0,some 0⟩) (atC c n).length (atC c n).length,S.new (.cells (z1U (atC c n)) 58))):=fun k=>by
       have hh:z2E (sE r) 63 [.map (some X),.int .i64 n]=false:=by
        obtain ⟨t,q⟩:=r
        cases q <;> rfl
       show bf (z2E (sE r) 63 [.map (some X),.int .i64 n]) _ _=_
       rw [hh]
       show ob (ob (ob (S.heap.get X) z8x) fun es=>gd ((es.all fun p=>z5g p.1&&z7b p.2)&&Nat.ble es.length 1000000) (some ((z4b ((es.filter fun p=>decide (n≤z7p p.2)).map fun p=>z3W p.1)).length,z1U (z4b ((es.filter fun p=>decide (n≤z7p p.2)).map fun p=>z3W p.1)),58))) (fun q=>bf (Nat.beq q.1 0) (some (Value.slice none 0 0,S)) (some (.slice (some ⟨S.size,0,some 0⟩) q.1 q.1,S.new (.cells q.2.1 q.2.2))))=_
       rw [hmb]
       show ob (gd (((z5S c).all fun p=>z5g p.1&&z7b p.2)&&Nat.ble (z5S c).length 1000000) (some ((z4b (((z5S c).filter fun p=>decide (n≤z7p p.2)).map fun p=>z3W p.1)).length,z1U (z4b (((z5S c).filter fun p=>decide (n≤z7p p.2)).map fun p=>z3W p.1)),58))) _=_
       rw [hall,hlen,hL];rfl
      have hev:∀ k,1≤k→zR (sE r) (Proofs.YtdpipdniklognaaGreat.run (sE r) k).call (Proofs.YtdpipdniklognaaGreat.run (sE r) k).code T S (.call cl)=(Proofs.YtdpipdniklognaaGreat.run (sE r) k).call 63 [.map (some X),.int .i64 n] S:=fun k hk=>by
       show ob (T.evs cl.args.toList) _=_
       rw [k3,hc]
       show ob (T.ev f) _=_
       rw [k1]
       show (Proofs.YtdpipdniklognaaGreat.run (sE r) k).call _ (fa.toList++([_,_]++ca.toList)) S=_
       rw [e1,e2];rfl
      generalize hl0:atC c n=l at *
      cases l with
      | nil =>
       refine ⟨.slice none 0 0,S,Z,1,fun k hk=>?_,hS,ZLe.refl S Z,Ex.refl _ _ _,hl,rfl,.p (.nil _ _)⟩
       obtain ⟨k,rfl,_⟩:=zh hk
       rw [hev _ hk,key];rfl
      | cons x l =>
       refine ⟨.slice (some ⟨S.size,0,some 0⟩) (x::l).length (x::l).length,S.new (.cells (z1U (x::l)) 58),ZN S Z,1,fun k hk=>?_,hS.newZ (.cells (z1U (x::l)) 58),z7y hS _,Ex.newZ _,Nat.le_succ_of_le hl,rfl,?_⟩
       ·obtain ⟨k,rfl,_⟩:=zh hk
        rw [hev _ hk,key];rfl
       ·have hrom:(sE r).rom.get S.size=none:=by
         cases hr:(sE r).rom.get S.size with
         | none=>rfl
         | some q=>exact absurd (hS.rom _ _ hr).1 (Nat.lt_irrefl _)
        have hsl:(zaj (x::l)).length=(x::l).length:=List.length_map _
        show VR (sE r) _ _ _ (.p (.lst 58 false (zaj (x::l)).length (fW (zaj (x::l))))) _
        rw [hsl]
        refine .p (.lst (sz:=2) (fun k=>z9o ((x::l).getD k (0,0))) (.inr rfl) ?_ (ym _) (yu _) (.inr ⟨rfl,hrom⟩) (fun k hk=>zfk hk) (fun k hk=>?_))
        ·unfold rdc
         rw [hrom]
         exact z0c
        ·show PRs _ _ _ (zgk (zB (zaj (x::l)) k)) _
         rw [zmO hk]
         exact .cons (.int _ _) (.cons (.int _ _) .nil)
noncomputable def zgJ (h:Hp) (p:Int):y9:=zcC h p (zu h p).length
theorem z7O {h:Hp} {p:Int} (hO:OkH h):Bnd (zgJ h p) 1000000:=by
 have h1:=zaZ (p:=p) hO (zu h p).length
 have h2:=zeL hO p
 exact ⟨fun x hx=>⟨(h1.1 x hx).1,Int.le_trans (h1.1 x hx).2 (by simp only [yl];omega)⟩,by have:=h1.2;unfold zgJ;omega⟩
theorem zfz {h:Hp} {p:Int} (hz:SzH h) (e:¬ z7u h p=0):VP (sE r) 62 [.agg ((eHp h).map .p),iv p] (.tup [.p .nilm,iv 0,iv (z7u h p)]):=by
 have hc:=z2o (r:=r) (p:=p) hz
 rcases z4r h p with ⟨hO,e1⟩ | e1
 rotate_left
 ·rw [(zax (zau e1)).1]
  refine VP.of (fn:=Tryz.f62) za (zD rfl) (by kernel_rfl) rfl rfl rfl ?_
  refine VSt.go za false [] 200 rfl AllP.n ?_
  refine zf (z00 0 (eHp h) rfl rfl) ?_
  refine VSt.pc rfl rfl rfl rfl rfl rfl rfl rfl (hc) ?_
  refine VSt.go za false [] 200 rfl AllP.n ?_
  refine VSt.cond rfl (fun _=>?_) (fun q=>absurd (q.symm.trans e1) (by decide))
  refine VSt.go za false [] 200 rfl AllP.n ?_
  exact EndsP.mk rfl rfl rfl rfl
 have hl:(zu h p).length=0:=by
  refine Nat.eq_zero_of_not_pos fun g=>e ?_
  unfold z7u;rw [if_pos e1,if_pos g]
 rw [show z7u h p=55 by unfold z7u;rw [if_pos e1,if_neg (by omega)]]
 rw [e1] at hc
 have hpr:=zeK (r:=r) (p:=p) hz hO
 rw [hl] at hpr
 refine VP.of (fn:=Tryz.f62) za (zD rfl) (by kernel_rfl) rfl rfl rfl ?_
 refine VSt.go za false [] 200 rfl AllP.n ?_
 refine zf (z00 0 (eHp h) rfl rfl) ?_
 refine VSt.pc rfl rfl rfl rfl rfl rfl rfl rfl (hc) ?_
 refine VSt.go za false [] 200 rfl AllP.n ?_
 refine VSt.cond rfl (fun q=>absurd q (by decide)) (fun _=>?_)
 refine VSt.go za false [] 200 rfl AllP.n ?_
 refine VSt.cc [] rfl rfl rfl rfl rfl rfl rfl rfl rfl rfl rfl hpr ?_
 rintro a L' ⟨rfl,rfl⟩
 refine VSt.go za false [] 200 rfl AllP.n ?_
 refine VSt.cond rfl (fun _=>?_) (fun q=>absurd q (by decide))
 refine VSt.go za false [] 200 rfl AllP.n ?_
 exact EndsP.mk rfl rfl rfl rfl
theorem zfy {h:Hp} {p:Int} (hz:SzH h) (hO:OkH h) (e1:ppE h p=0) (hl:0<(zu h p).length):VC (sE r) [] 62 [.agg ((eHp h).map .p),iv p] [] (fun a L'=>a = .tup [.map 0,nv (zu h p).length,iv 0]∧L'=[(0,zeX (zgJ h p))]):=by
 have hc:=z2o (r:=r) (p:=p) hz
 rw [e1] at hc
 have hpr:=zeK (r:=r) (p:=p) hz hO
 refine z7o (fn:=Tryz.f62) za (zD rfl) (by kernel_rfl) rfl rfl ?_
 refine VSt.go za false [10] 200 rfl AllP.n ?_
 refine zf (z00 0 (eHp h) rfl rfl) ?_
 refine VSt.go za false [] 200 rfl AllP.n ?_
 refine VSt.pc rfl rfl rfl rfl rfl rfl rfl rfl (hc) ?_
 refine VSt.go za false [] 200 rfl AllP.n ?_
 refine VSt.cond rfl (fun q=>absurd q (by decide)) (fun _=>?_)
 refine VSt.go za false [] 200 rfl AllP.n ?_
 refine VSt.cc [] rfl rfl rfl rfl rfl rfl rfl rfl rfl rfl rfl hpr ?_
 rintro a L' ⟨rfl,rfl⟩
 refine VSt.go za false [] 200 rfl AllP.n ?_
 refine VSt.cond rfl (fun q=>?_) (fun _=>?_)
 ·have q:(Int.ofNat (zu h p).length==0)=true:=q
  have:=eq_of_beq q
  simp only [yl] at this
  omega
 refine VSt.go za false [24] 200 rfl AllP.n ?_
 refine zf (Vw.kp [8,9] [(0,0)] rfl) ?_
 refine VSt.go za false [] 200 rfl AllP.n ?_
 exact ⟨rfl,_,rfl,rfl,rfl⟩
noncomputable def zer (h:Hp) (p:Int):List (Int×Int):=atC (zgJ h p) (Int.ofNat (zu h p).length)
noncomputable def zeY (h:Hp) (p:Int):List (Int×Int):=atC (zgJ h p) 1
noncomputable def zcS (h:Hp) (p:Int):List Sew:=if z7u h p=0 then zaj (zer h p) else []
noncomputable def zW (h:Hp) (p:Int):List Sew:=if z7u h p=0 then zaj (zeY h p) else []
theorem zeM {h:Hp} {p:Int} (e:z7u h p=0):OkH h∧ppE h p=0∧0<(zu h p).length:=by
 rcases z4r h p with ⟨hO,e1⟩ | e1
 ·refine ⟨hO,e1,Nat.pos_of_ne_zero fun g=>?_⟩
  unfold z7u at e
  rw [if_pos e1,if_neg (by omega)] at e
  exact absurd e (by decide)
 ·rw [(zax (zau e1)).1] at e
  exact absurd e (zau e1)
theorem zok {h:Hp} {p:Int} (hz:SzH h):VP (sE r) 12 [.agg ((eHp h).map .p),iv p] (.tup [.p (eLW (zcS h p)),iv (z7u h p)]):=by
 by_cases e:z7u h p=0
 ·obtain ⟨hO,e1,hl⟩:=zeM e
  rw [show zcS h p=zaj (zer h p) from if_pos e,e]
  refine VP.of (fn:=Tryz.f12) za (zD rfl) (by kernel_rfl) rfl rfl rfl ?_
  refine VSt.go za false [] 200 rfl AllP.n ?_
  refine zf (z00 0 (eHp h) rfl rfl) ?_
  refine VSt.cc [] rfl rfl rfl rfl rfl rfl rfl rfl rfl rfl rfl (zfy (r:=r) (p:=p) hz hO e1 hl) ?_
  rintro a L' ⟨rfl,rfl⟩
  refine VSt.go za false [] 200 rfl AllP.n ?_
  refine VSt.cond rfl (fun q=>absurd q (by decide)) (fun _=>?_)
  refine VSt.go za false [] 200 rfl AllP.n ?_
  refine zjH rfl rfl (zjw (c:=zgJ h p) (m:=1000000) (n:=Int.ofNat (zu h p).length) rfl rfl rfl rfl (z7O hO) (ym _)) ?_
  refine VSt.go za false [] 200 rfl AllP.n ?_
  exact EndsP.mk rfl rfl rfl rfl
 ·have hno:=zfz (r:=r) (p:=p) hz e
  have q0:(!(z7u h p==0))=true:=by
   rw [show (z7u h p==0)=false by rw [←Bool.not_eq_true,beq_iff_eq];exact e];rfl
  rw [show zcS h p=[] from if_neg e]
  refine VP.of (fn:=Tryz.f12) za (zD rfl) (by kernel_rfl) rfl rfl rfl ?_
  refine VSt.go za false [] 200 rfl AllP.n ?_
  refine zf (z00 0 (eHp h) rfl rfl) ?_
  refine VSt.pc rfl rfl rfl rfl rfl rfl rfl rfl (hno) ?_
  refine VSt.go za false [] 200 rfl AllP.n ?_
  refine VSt.cond rfl (fun _=>?_) (fun q=>absurd (q.symm.trans q0) (by decide))
  refine VSt.go za false [] 200 rfl AllP.n ?_
  exact ⟨rfl,_,rfl,rfl,AImp.tup ⟨AImp.nil,AImp.refl _,trivial⟩⟩
theorem zq6 {h:Hp} {p:Int} (hz:SzH h):VP (sE r) 14 [.agg ((eHp h).map .p),iv p] (.tup [.p (eLW (zW h p)),iv (z7u h p)]):=by
 by_cases e:z7u h p=0
 ·obtain ⟨hO,e1,hl⟩:=zeM e
  rw [show zW h p=zaj (zeY h p) from if_pos e,e]
  refine VP.of (fn:=Tryz.f14) za (zD rfl) (by kernel_rfl) rfl rfl rfl ?_
  refine VSt.go za false [] 200 rfl AllP.n ?_
  refine zf (z00 0 (eHp h) rfl rfl) ?_
  refine VSt.cc [] rfl rfl rfl rfl rfl rfl rfl rfl rfl rfl rfl (zfy (r:=r) (p:=p) hz hO e1 hl) ?_
  rintro a L' ⟨rfl,rfl⟩
  refine VSt.go za false [] 200 rfl AllP.n ?_
  refine VSt.cond rfl (fun q=>absurd q (by decide)) (fun _=>?_)
  refine VSt.go za false [] 200 rfl AllP.n ?_
  refine zjH rfl rfl (zjw (c:=zgJ h p) (m:=1000000) (n:=1) rfl rfl rfl rfl (z7O hO) (ym _)) ?_
  refine VSt.go za false [] 200 rfl AllP.n ?_
  exact EndsP.mk rfl rfl rfl rfl
 ·have hno:=zfz (r:=r) (p:=p) hz e
  have q0:(!(z7u h p==0))=true:=by
   rw [show (z7u h p==0)=false by rw [←Bool.not_eq_true,beq_iff_eq];exact e];rfl
  rw [show zW h p=[] from if_neg e]
  refine VP.of (fn:=Tryz.f14) za (zD rfl) (by kernel_rfl) rfl rfl rfl ?_
  refine VSt.go za false [] 200 rfl AllP.n ?_
  refine zf (z00 0 (eHp h) rfl rfl) ?_
  refine VSt.pc rfl rfl rfl rfl rfl rfl rfl rfl (hno) ?_
  refine VSt.go za false [] 200 rfl AllP.n ?_
  refine VSt.cond rfl (fun _=>?_) (fun q=>absurd (q.symm.trans q0) (by decide))
  refine VSt.go za false [] 200 rfl AllP.n ?_
  exact ⟨rfl,_,rfl,rfl,AImp.tup ⟨AImp.nil,AImp.refl _,trivial⟩⟩
end
section
theorem zfh {l:List Sht} {w a:Nat}:∀ j,zgg l w a j=true ↔ ∃ i,i<j∧zgI (zi l (a+i)) w=false
 | 0=>⟨fun h=>(by cases h),fun ⟨i,hi,_⟩=>absurd hi (Nat.not_lt_zero i)⟩
 | j+1=>by
  show (zgg l w a j || !zgI (zi l (a+j)) w)=true ↔ _
  rw [Bool.or_eq_true,zfh j,Bool.not_eq_true']
  constructor
  ·rintro (⟨i,h1,h2⟩ | h)
   ·exact ⟨i,by omega,h2⟩
   ·exact ⟨j,Nat.lt_succ_self j,h⟩
  ·rintro ⟨i,h1,h2⟩
   by_cases c:i=j
   ·subst c;exact .inr h2
   ·exact .inl ⟨i,by omega,h2⟩
theorem ze1 {l:List Sht} {w:Nat}:brB l w=true ↔ ∃ i j k,i≤j∧j≤k∧k<l.length∧z7J (zi l i) w=true∧zgI (zi l j) w=false∧z7J (zi l k) w=true:=by
 unfold brB
 rcases zmM l w l.length with ⟨h1,h2,h3⟩ | ⟨a,b,h1,h2,h3,h4,h5,h6,h7,h8⟩
 ·rw [h1]
  refine ⟨fun h=>(by cases h),fun ⟨i,j,k,hij,hjk,hk,hi,_⟩=>?_⟩
  rw [h3 i (by omega)] at hi;cases hi
 ·rw [h1,h2,decide_eq_true (show (0:Int)≤Int.ofNat a by simp only [yl];omega),Bool.true_and,zfh]
  show (∃ i,i<b+1 - a∧zgI (zi l (a+i)) w=false) ↔ _
  constructor
  ·rintro ⟨i,hi,h⟩
   exact ⟨a,a+i,b,by omega,by omega,h4,h5,h,h6⟩
  ·rintro ⟨i,j,k,hij,hjk,hk,hi,hj,hk2⟩
   have hai:a≤i:=Nat.le_of_not_lt fun c=>by rw [h7 i c] at hi;cases hi
   have hkb:k≤b:=Nat.le_of_not_lt fun c=>by rw [h8 k c hk] at hk2;cases hk2
   exact ⟨j - a,by omega,by rw [show a+(j - a)=j by omega];exact hj⟩
theorem ze0 (l:List Sht) (w:Nat):∀ n,(y8 l n).testBit w=(decide (w<n)&&brB l w)
 | 0=>by show (0:Nat).testBit w=_;rw [Nat.zero_testBit,decide_eq_false (Nat.not_lt_zero w)];rfl
 | n+1=>by
  have ih:=ze0 l w n
  show (bif brB l n then y8 l n ||| 1 <<< n else y8 l n).testBit w=_
  by_cases c:w=n
  ·subst c
   rw [decide_eq_true (Nat.lt_succ_self w),Bool.true_and]
   rw [decide_eq_false (Nat.lt_irrefl w),Bool.false_and] at ih
   cases hb:brB l w with
   | true=>rw [cond_true,Nat.testBit_or,Nat.one_shiftLeft,Nat.testBit_two_pow,decide_eq_true rfl,Bool.or_true]
   | false=>exact ih
  ·have e:decide (w<n+1)=decide (w<n):=by rw [Bool.eq_iff_iff,decide_eq_true_iff,decide_eq_true_iff];omega
   rw [e,←ih]
   cases brB l n with
   | true=>rw [cond_true,Nat.testBit_or,Nat.one_shiftLeft,Nat.testBit_two_pow,decide_eq_false (fun h=>c h.symm),Bool.or_false]
   | false=>rfl
theorem zb7 {l:List Sht}:y8 l 12=0 ↔ ∀ w,w<12→brB l w=false:=by
 constructor
 ·intro h w hw
  have:=ze0 l w 12
  rw [h,Nat.zero_testBit,decide_eq_true hw,Bool.true_and] at this
  exact this.symm
 ·intro h
  refine Nat.eq_of_testBit_eq fun w=>?_
  rw [ze0,Nat.zero_testBit]
  by_cases c:w<12
  ·rw [h w c,Bool.and_false]
  ·rw [decide_eq_false c];rfl
def z3Y (h:Hp) (l:List Sht):List Nat→Prop
 | []=>True
 | a::t=>z3Y h l t∧a<l.length∧okR h l t a=true
theorem z8R {h:Hp} {l:List Sht}:∀ f {row0 row:List Nat},z3Y h l row0→(row∈z4O h l f row0 ↔ z3Y h l row∧∃ pre,row=pre++row0∧pre.length=f)
 | 0,row0,row,h0=>by
  show row∈[row0] ↔ _
  rw [List.mem_singleton]
  constructor
  ·rintro rfl;exact ⟨h0,[],rfl,rfl⟩
  ·rintro ⟨_,pre,e,hp⟩
   rw [e,List.length_eq_zero_iff.1 hp];rfl
 | f+1,row0,row,h0=>by
  show row∈((List.range l.length).flatMap fun i=>bif okR h l row0 i then z4O h l f (i::row0) else []) ↔ _
  rw [List.mem_flatMap]
  constructor
  ·rintro ⟨i,hi,hx⟩
   cases hk:okR h l row0 i with
   | false=>rw [hk] at hx;cases hx
   | true =>
    rw [hk] at hx
    obtain ⟨h1,pre,e,hp⟩:=(z8R f (row0:=i::row0) ⟨h0,List.mem_range.1 hi,hk⟩).1 hx
    exact ⟨h1,pre++[i],by rw [e,List.append_assoc];rfl,by rw [List.length_append,hp];rfl⟩
  ·rintro ⟨h1,pre,e,hp⟩
   have hne:pre≠[]:=fun g=>by rw [g] at hp;cases hp
   have hpl:=List.dropLast_concat_getLast hne
   have hok:∀ {t s:List Nat},z3Y h l (t++s)→z3Y h l s:=fun {t s} g=>by
    induction t with
    | nil=>exact g
    | cons a t ih=>exact ih g.1
   have e2:row=pre.dropLast++(pre.getLast hne::row0):=by
    rw [e]
    conv=>lhs;rw [←hpl]
    rw [List.append_assoc];rfl
   have h2:z3Y h l (pre.getLast hne::row0):=hok (e2 ▸ h1)
   refine ⟨pre.getLast hne,List.mem_range.2 h2.2.1,?_⟩
   rw [h2.2.2]
   exact (z8R f h2).2 ⟨h1,pre.dropLast,e2,by rw [List.length_dropLast,hp];rfl⟩
theorem rows_iff {h:Hp} {l:List Sht} {row:List Nat}:row∈z7s h l ↔ z3Y h l row∧row.length=l.length:=by
 unfold z7s
 rw [z8R l.length (row0:=[]) trivial]
 constructor
 ·rintro ⟨h1,pre,e,hp⟩
  rw [List.append_nil] at e
  exact ⟨h1,by rw [e];exact hp⟩
 ·rintro ⟨h1,h2⟩
  exact ⟨h1,row,(List.append_nil _).symm,h2⟩
theorem z9f {h:Hp} {l:List Sht}:∀ {row:List Nat},z3Y h l row→row.Nodup
 | [],_=>List.nodup_nil
 | a::t,g=>by
  rw [List.nodup_cons]
  refine ⟨fun hm=>?_,z9f g.1⟩
  have:=g.2.2
  rw [z8s (List.contains_iff_mem.2 hm)] at this;cases this
theorem z9g {h:Hp} {l:List Sht}:∀ {row:List Nat},z3Y h l row→∀ i∈row,i<l.length
 | [],_,i,hi=>by cases hi
 | a::t,g,i,hi=>by
  rcases List.mem_cons.1 hi with rfl | hi
  ·exact g.2.1
  ·exact z9g g.1 i hi
theorem zcl {h:Hp} {l:List Sht}:∀ f {row0:List Nat},z3Y h l row0→(z4O h l f row0).Nodup
 | 0,row0,_=>by show [row0].Nodup;rw [List.nodup_cons];exact ⟨List.not_mem_nil,List.nodup_nil⟩
 | f+1,row0,h0=>by
  show ((List.range l.length).flatMap fun i=>bif okR h l row0 i then z4O h l f (i::row0) else []).Nodup
  rw [List.nodup_iff_pairwise_ne,List.pairwise_flatMap]
  refine ⟨fun i hi=>?_,(List.pairwise_lt_range (n:=l.length)).imp_of_mem fun {i k} hi hk hik x hx y hy e=>?_⟩
  ·cases hk:okR h l row0 i with
   | false=>exact List.Pairwise.nil
   | true =>
    have:=zcl f (row0:=i::row0) ⟨h0,List.mem_range.1 hi,hk⟩
    rw [List.nodup_iff_pairwise_ne] at this;exact this
  ·subst e
   have last:∀ i,x∈(bif okR h l row0 i then z4O h l f (i::row0) else [])→i<l.length→∃ pre,x=pre++i::row0∧pre.length=f:=fun i hx hi=>by
    cases hk:okR h l row0 i with
    | false=>rw [hk] at hx;cases hx
    | true =>
     rw [hk] at hx
     exact ((z8R f (row0:=i::row0) ⟨h0,hi,hk⟩).1 hx).2
   obtain ⟨p1,a1,a2⟩:=last i hx (List.mem_range.1 hi)
   obtain ⟨p2,b1,b2⟩:=last k hy (List.mem_range.1 hk)
   rw [a1] at b1
   have:=(List.append_inj b1 (by rw [a2,b2])).2
   have:=(List.cons.inj this).1
   omega
def Nd (c:y9):Prop:=(c.map (·.1)).Nodup
theorem znq {c:y9} (h:Nd c) {i j:Nat} {x y:(Int×Int)×Int} (hi:c[i]? = some x) (hj:c[j]? = some y) (e:x.1=y.1):i=j:=by
 obtain ⟨hi1,hi2⟩:=List.getElem?_eq_some_iff.1 hi
 obtain ⟨hj1,hj2⟩:=List.getElem?_eq_some_iff.1 hj
 refine (List.getElem_inj (h₀ :=by rw [List.length_map];exact hi1) (h₁ :=by rw [List.length_map];exact hj1) h).1 ?_
 rw [List.getElem_map,List.getElem_map,hi2,hj2,e]
theorem get_mem {c:y9} (h:Nd c) {y:Int×Int} {v:Int} (hm:(y,v)∈c):z3Q c y=v:=by
 unfold z3Q
 cases hp:z5c y c 0 with
 | none=>exact absurd rfl (zav hp _ hm)
 | some q =>
  obtain ⟨i,hi⟩:=List.mem_iff_getElem?.1 hm
  have h1:=z8o hp
  have:=znq h h1 hi rfl
  rw [this,hi] at h1
  have h1:=Option.some.inj h1
  show q.2=v
  exact (congrArg Prod.snd h1).symm
theorem z8w {c:y9} {y:Int×Int} (hne:z3Q c y≠0):(y,z3Q c y)∈c:=by
 unfold z3Q at hne ⊢
 cases hp:z5c y c 0 with
 | none=>rw [hp] at hne;exact absurd rfl hne
 | some q=>exact List.mem_of_getElem? (z8o hp)
theorem zfb {c:y9} {k:Int×Int} {q:Nat×Int} (hp:z5c k c 0=some q):zge c k=c.set q.1 (k,q.2+1)∧z3Q c k=q.2:=by
 unfold zge zfA zl1 z3Q
 rw [hp];exact ⟨rfl,rfl⟩
theorem zfc {c:y9} {k:Int×Int} (hp:z5c k c 0=none):zge c k=c++[(k,1)]∧z3Q c k=0:=by
 unfold zge zfA zl1 z3Q
 rw [hp]
 refine ⟨?_,rfl⟩
 show (c++[(k,0)]).set c.length (k,0+1)=_
 rw [List.set_append_right _ _ (ym _),Nat.sub_self];rfl
theorem ziz {c:y9} (h:Nd c) (k:Int×Int):Nd (zge c k):=by
 unfold Nd at h ⊢
 cases hp:z5c k c 0 with
 | some q =>
  rw [(zfb hp).1,List.map_set]
  have h1:=z8o hp
  have:(c.map (·.1)).set q.1 k=c.map (·.1):=by
   refine List.ext_getElem? fun i=>?_
   rw [List.getElem?_set]
   split
   ·rename_i e
    subst e
    rw [List.getElem?_map,h1]
    split
    ·rfl
    ·rename_i hl
     exact absurd (by rw [List.length_map];exact (List.getElem?_eq_some_iff.1 h1).1) hl
   ·rfl
  show ((c.map (·.1)).set q.1 k).Nodup
  rw [this];exact h
 | none =>
  rw [(zfc hp).1,List.map_append]
  show (c.map (·.1)++[k]).Nodup
  rw [List.nodup_append]
  refine ⟨h,List.nodup_cons.2 ⟨List.not_mem_nil,List.nodup_nil⟩,fun a ha b hb=>?_⟩
  rw [List.mem_singleton.1 hb]
  obtain ⟨x,hx,rfl⟩:=List.mem_map.1 ha
  exact zav hp x hx
theorem znE {c:y9} (h:Nd c) (k y:Int×Int):z3Q (zge c k) y=z3Q c y+(if y=k then 1 else 0):=by
 have hn:=ziz h k
 cases hp:z5c k c 0 with
 | some q =>
  obtain ⟨e1,e2⟩:=zfb hp
  have h1:=z8o hp
  have hl:=(List.getElem?_eq_some_iff.1 h1).1
  by_cases c1:y=k
  ·subst c1
   rw [if_pos rfl,e2]
   refine get_mem hn ?_
   rw [e1]
   exact List.mem_of_getElem? (i:=q.1) (by rw [List.getElem?_set,if_pos rfl,if_pos hl])
  ·rw [if_neg c1,Int.add_zero]
   by_cases c2:z3Q c y=0
   ·rw [c2]
    refine Decidable.byContradiction fun c3=>?_
    have h3:=z8w c3
    rw [e1] at h3
    rcases List.mem_or_eq_of_mem_set (show (y,z3Q (c.set q.1 (k,q.2+1)) y)∈c.set q.1 (k,q.2+1) from by rw [←e1] at h3 ⊢;exact h3) with h4 | h4
    ·have:=get_mem h h4
     rw [c2] at this
     rw [e1] at c3
     exact c3 this.symm
    ·exact c1 (congrArg Prod.fst h4)
   ·refine get_mem hn ?_
    have h3:=z8w c2
    obtain ⟨i,hi⟩:=List.mem_iff_getElem?.1 h3
    rw [e1]
    refine List.mem_of_getElem? (i:=i) ?_
    rw [List.getElem?_set,if_neg,hi]
    intro e
    rw [←e,h1] at hi
    exact c1 (congrArg Prod.fst (Option.some.inj hi)).symm
 | none =>
  obtain ⟨e1,e2⟩:=zfc hp
  by_cases c1:y=k
  ·subst c1
   rw [if_pos rfl,e2]
   refine get_mem hn ?_
   rw [e1];exact List.mem_append.2 (.inr (List.mem_singleton.2 rfl))
  ·rw [if_neg c1,Int.add_zero]
   by_cases c2:z3Q c y=0
   ·rw [c2]
    refine Decidable.byContradiction fun c3=>?_
    have h3:=z8w c3
    rw [e1] at h3
    rcases List.mem_append.1 h3 with h4 | h4
    ·have:=get_mem h h4
     rw [c2] at this
     rw [e1] at c3
     exact c3 this.symm
    ·exact c1 (congrArg Prod.fst (List.mem_singleton.1 h4))
   ·refine get_mem hn ?_
    rw [e1];exact List.mem_append.2 (.inl (z8w c2))
theorem zme:∀ {l:List (Int×Int)} {c:y9},Nd c→Nd (z9Z c l)
 | [],_,h=>h
 | k::l,c,h=>zme (l:=l) (ziz h k)
theorem zjb {y:Int×Int}:∀ {l:List (Int×Int)} {c:y9},Nd c→z3Q (z9Z c l) y=z3Q c y+Int.ofNat (l.filter (fun x=>decide (y=x))).length
 | [],c,h=>(Int.add_zero _).symm
 | k::l,c,h=>by
  show z3Q (z9Z (zge c k) l) y=_
  rw [zjb (ziz h k),znE h k y]
  by_cases e:y=k
  ·rw [if_pos e,List.filter_cons_of_pos (by rw [decide_eq_true e]),List.length_cons]
   simp only [yl];omega
  ·rw [if_neg e,List.filter_cons_of_neg (by rw [decide_eq_false e];decide),Int.add_zero]
def zdN (y:Int×Int) (rows:List (List Int)):Nat:=(rows.filter fun ids=>(y7 ids).any fun x=>decide (y=x)).length
theorem zi5 {α : Type} [DecidableEq α] {y : α}:∀ {l:List α},l.Nodup→(l.filter fun x=>decide (y=x)).length=if l.any (fun x=>decide (y=x))=true then 1 else 0
 | [],_=>rfl
 | a::l,h=>by
  rw [List.nodup_cons] at h
  have ih:=zi5 (y:=y) h.2
  by_cases e:y=a
  ·subst e
   have h0:(l.any fun x=>decide (y=x))=false:=by
    rw [List.any_eq_false]
    intro x hx
    rw [decide_eq_false];decide
    intro e2;subst e2;exact h.1 hx
   rw [List.filter_cons_of_pos (by rw [decide_eq_true rfl]),List.length_cons,ih,h0,List.any_cons,decide_eq_true rfl,Bool.true_or]
   simp
  ·rw [List.filter_cons_of_neg (by rw [decide_eq_false e];decide),ih,List.any_cons,decide_eq_false e,Bool.false_or]
theorem zbY:∀ {ids:List Int},ids.Nodup→(y7 ids).Nodup
 | [],_=>List.nodup_nil
 | [_],_=>List.nodup_nil
 | a::b::l,h=>by
  rw [List.nodup_cons] at h
  show ((a,b)::y7 (b::l)).Nodup
  rw [List.nodup_cons]
  refine ⟨fun hm=>?_,zbY h.2⟩
  have:∀ {x:Int×Int} {l:List Int},x∈y7 l→x.1∈l:=fun {x l} hx=>by
   unfold y7 at hx
   exact (List.of_mem_zip (show (x.1,x.2)∈l.zip l.tail from hx)).1
  exact h.1 (this hm)
theorem zjd {y:Int×Int}:∀ {rows:List (List Int)} {c:y9},Nd c→(∀ ids∈rows,ids.Nodup)→Nd (rows.foldl (fun c ids=>z9Z c (y7 ids)) c)∧z3Q (rows.foldl (fun c ids=>z9Z c (y7 ids)) c) y=z3Q c y+Int.ofNat (zdN y rows)
 | [],c,h,_=>⟨h,(Int.add_zero _).symm⟩
 | ids::rows,c,h,hr=>by
  have h1:=zme (l:=y7 ids) h
  obtain ⟨i1,i2⟩:=zjd (y:=y) (rows:=rows) h1 fun x hx=>hr x (List.mem_cons_of_mem _ hx)
  refine ⟨i1,?_⟩
  show z3Q (rows.foldl (fun c ids=>z9Z c (y7 ids)) (z9Z c (y7 ids))) y=_
  rw [i2,zjb h,zi5 (zbY (hr ids List.mem_cons_self))]
  unfold zdN
  cases ha:(y7 ids).any fun x=>decide (y=x) with
  | true =>
   rw [if_pos rfl,List.filter_cons_of_pos (by rw [ha]),List.length_cons]
   simp only [yl];omega
  | false =>
   rw [if_neg (by decide),List.filter_cons_of_neg (by rw [ha];decide)]
   simp
def ordI (h:Hp) (p:Int):List (List Int):=(zu h p).map (zT h p)
theorem z5G {h:Hp} {p:Int} {row:List Nat} (hr:row∈zu h p):z3Y h (zJ h.st p) row∧row.length=(zJ h.st p).length:=rows_iff.1 (List.mem_filter.1 hr).1
theorem zb6 {h:Hp} {p:Int} (hO:OkH h) {i j:Nat} (hij:i<j) (hj:j<(zJ h.st p).length):(zi (zJ h.st p) i).id<(zi (zJ h.st p) j).id:=by
 have hb:=z4z (l:=h.st) (p:=p)
 have hlen:(z4N h.st p).length=(zJ h.st p).length:=by rw [←hb,List.length_map]
 have e:∀ k,k<(zJ h.st p).length→zi (zJ h.st p) k=zi h.st (zU (z4N h.st p) k):=fun k hk=>by
  have hi2:k<(z4N h.st p).length:=by omega
  rw [←hb]
  exact zhy (h:=h) hi2
 rw [e i (by omega),e j hj]
 have h1:zU (z4N h.st p) i<zU (z4N h.st p) j:=by
  have:=zeF (d:=0) (z8z (l:=h.st) (p:=p) h.st.length) hij (show j<(z4N h.st p).length by omega)
  exact this
 exact hO.rise.lt h1 (z8A _ _ (z09 (d:=0) (show j<(z4N h.st p).length by omega)))
theorem zo7 {h:Hp} {p:Int} (hO:OkH h) {i j:Nat} (hi:i<(zJ h.st p).length) (hj:j<(zJ h.st p).length) (e:(zi (zJ h.st p) i).id=(zi (zJ h.st p) j).id):i=j:=by
 rcases Nat.lt_trichotomy i j with c | c | c
 ·have:=zb6 (p:=p) hO c hj;omega
 ·exact c
 ·have:=zb6 (p:=p) hO c hi;omega
theorem zaQ {h:Hp} {p:Int} {row:List Nat}:zT h p row=row.reverse.map fun i=>(zi (zJ h.st p) i).id:=by
 unfold zT zQ
 rw [List.map_map];rfl
theorem zcg {h:Hp} {p:Int} (hO:OkH h) {row:List Nat} (ha:z3Y h (zJ h.st p) row):(zT h p row).Nodup:=by
 rw [zaQ,List.nodup_iff_pairwise_ne,List.pairwise_map]
 have hn:row.reverse.Pairwise (· ≠ ·):=by
  rw [List.pairwise_reverse]
  have:=z9f ha
  rw [List.nodup_iff_pairwise_ne] at this
  exact this.imp Ne.symm
 refine hn.imp_of_mem fun {i j} hi hj hne e=>hne ?_
 exact zo7 hO (z9g ha i (List.mem_reverse.1 hi)) (z9g ha j (List.mem_reverse.1 hj)) e
theorem zb0 {h:Hp} {p:Int} (hO:OkH h) (y:Int×Int):Nd (zgJ h p)∧z3Q (zgJ h p) y=Int.ofNat (zdN y (ordI h p)):=by
 have e:zgJ h p=(ordI h p).foldl (fun c ids=>z9Z c (y7 ids)) []:=by
  unfold zgJ zcC zr3 ordI
  rw [List.take_length]
 obtain ⟨h1,h2⟩:=zjd (y:=y) (rows:=ordI h p) (c:=[]) List.nodup_nil fun ids hi=>by
  obtain ⟨row,hr,rfl⟩:=List.mem_map.1 hi
  exact zcg hO (z5G hr).1
 rw [e]
 refine ⟨h1,h2.trans ?_⟩
 show (0:Int)+_=_
 rw [Int.zero_add]
theorem at_mem {c:y9} (h:Nd c) {n:Int} (hn:0<n) {y:Int×Int}:y∈atC c n ↔ n≤z3Q c y:=by
 unfold atC
 rw [(z0H _).mem_iff]
 constructor
 ·intro hm
  obtain ⟨x,hx,rfl⟩:=List.mem_map.1 hm
  obtain ⟨h1,h2⟩:=List.mem_filter.1 hx
  have:=of_decide_eq_true h2
  rw [get_mem h (show (x.1,x.2)∈c from h1)];exact this
 ·intro hg
  have h1:=z8w (c:=c) (y:=y) (by omega)
  exact List.mem_map.2 ⟨_,List.mem_filter.2 ⟨h1,decide_eq_true hg⟩,rfl⟩
theorem zhn {h:Hp} {p:Int} (hO:OkH h) (hl:0<(zu h p).length) {y:Int×Int}:y∈zer h p ↔ ∀ ids∈ordI h p,y∈y7 ids:=by
 obtain ⟨h1,h2⟩:=zb0 (p:=p) hO y
 have hlen:(ordI h p).length=(zu h p).length:=List.length_map _
 unfold zer
 rw [at_mem h1 (by simp only [yl];omega),h2]
 have hle:zdN y (ordI h p)≤(ordI h p).length:=List.length_filter_le _ _
 have:Int.ofNat (zu h p).length≤Int.ofNat (zdN y (ordI h p)) ↔ zdN y (ordI h p)=(ordI h p).length:=by
  simp only [yl];omega
 rw [this]
 unfold zdN
 rw [List.length_filter_eq_length_iff]
 constructor
 ·intro g ids hi
  obtain ⟨x,hx,e⟩:=List.any_eq_true.1 (g ids hi)
  rw [of_decide_eq_true e];exact hx
 ·intro g ids hi
  exact List.any_eq_true.2 ⟨y,g ids hi,decide_eq_true rfl⟩
theorem zdv {h:Hp} {p:Int} (hO:OkH h) {y:Int×Int}:y∈zeY h p ↔ ∃ ids∈ordI h p,y∈y7 ids:=by
 obtain ⟨h1,h2⟩:=zb0 (p:=p) hO y
 unfold zeY
 rw [at_mem h1 (by decide),h2]
 have:(1:Int)≤Int.ofNat (zdN y (ordI h p)) ↔ 0<zdN y (ordI h p):=by simp only [yl];omega
 rw [this]
 unfold zdN
 rw [List.length_pos_iff_exists_mem]
 constructor
 ·rintro ⟨ids,hi⟩
  obtain ⟨g1,g2⟩:=List.mem_filter.1 hi
  obtain ⟨x,hx,e⟩:=List.any_eq_true.1 g2
  exact ⟨ids,g1,by rw [of_decide_eq_true e];exact hx⟩
 ·rintro ⟨ids,g1,g2⟩
  exact ⟨ids,List.mem_filter.2 ⟨g1,List.any_eq_true.2 ⟨y,g2,decide_eq_true rfl⟩⟩⟩
theorem zpQ (R:Raw):zJ (mdH R).st 3=zP R 30:=by
 refine List.filter_eq_self.2 fun s hs=>?_
 obtain ⟨_,k,_,_,_,_,_,rfl⟩:=z6p 30 (show s∈zP R 30 from hs)
 rfl
open Classical in
noncomputable def tI (R:Raw) (k:Nat):Nat:=if hk:k<nM R then (zeW hk).choose else 0
theorem zhm {R:Raw} {k:Nat} (hk:k<nM R):tI R k<(zP R 30).length∧zi (zP R 30) (tI R k)=z5x R k:=by
 unfold tI
 rw [dif_pos hk]
 exact (zeW hk).choose_spec
theorem zoP {R:Raw} {i k:Nat} (hi:i<nM R) (hk:k<nM R) (e:tI R i=tI R k):i=k:=by
 have h1:=(zhm hi).2
 rw [e,(zhm hk).2] at h1
 have:=congrArg Sht.id h1
 rw [z3I,z3I] at this
 exact (z6w hk hi this).symm
noncomputable def zhh (R:Raw):Nat→List Nat
 | 0=>[]
 | k+1=>tI R k::zhh R k
theorem zen {R:Raw} {x:Nat}:∀ {k},x∈zhh R k→∃ i,i<k∧x=tI R i
 | 0,h=>by cases h
 | k+1,h=>by
  rcases List.mem_cons.1 (show x∈tI R k::zhh R k from h) with rfl | h
  ·exact ⟨k,Nat.lt_succ_self k,rfl⟩
  ·obtain ⟨i,h1,h2⟩:=zen h
   exact ⟨i,by omega,h2⟩
theorem zae {R:Raw}:∀ k,(zhh R k).length=k
 | 0=>rfl
 | k+1=>congrArg (· + 1) (zae k)
theorem zpk {R:Raw} {k:Nat} (hk:k<nM R):toS (mdH R) ((zC R).getD k 0)=0∨(k+1<nM R∧toS (mdH R) ((zC R).getD k 0)=(zC R).getD (k+1) 0):=by
 rcases z3R (zkQ R) ((zC R).getD k 0) with ⟨j,hj,h1,h2⟩ | ⟨_,h2⟩
 ·have hm:zB (zS R 30) j∈zS R 30:=z09 hj
  obtain ⟨i,k',_,_,_,h4,h5,h6,h7⟩:=z6s 30 hm
  have h1:(zB (zS R 30) j).fro=(zC R).getD k 0:=h1
  have:k'=k:=z6w (by omega) hk (by rw [h5,←h6,h1])
  subst this
  exact .inr ⟨h4,h2.trans h7⟩
 ·exact .inl h2
theorem zpn {R:Raw} {k:Nat} (hk:k<nM R):frS (mdH R) ((zC R).getD k 0)=0∨(0<k∧frS (mdH R) ((zC R).getD k 0)=(zC R).getD (k - 1) 0):=by
 rcases z4d (zkQ R) ((zC R).getD k 0) with ⟨j,hj,h1,h2⟩ | ⟨_,h2⟩
 ·have hm:zB (zS R 30) j∈zS R 30:=z09 hj
  obtain ⟨i,k',_,_,_,h4,h5,h6,h7⟩:=z6s 30 hm
  have h1:(zB (zS R 30) j).too=(zC R).getD k 0:=h1
  have:k'+1=k:=z6w h4 hk (by rw [←h7,h1])
  subst this
  exact .inr ⟨Nat.succ_pos _,by rw [h2,Nat.add_sub_cancel];exact h6.trans h5.symm⟩
 ·exact .inl h2
theorem zpm {R:Raw} {k:Nat} (hk:k+1<nM R):mayB (mdH R) (z5x R k) (z5x R (k+1))=true:=by
 unfold mayB
 rw [yw,yw]
 refine ⟨?_,?_,?_⟩
 ·show (zpN R k==zpE R (k+1)||(zpN R k==0||zpE R (k+1)==0))=true
  unfold zpN zpE
  rw [if_pos hk]
  cases (z7F (shN R k).2.1 2==0) with
  | false=>rw [cond_false,beq_self_eq_true];simp
  | true =>
   cases (z7F (shN R (k+1)).2.1 1==0) with
   | false=>rw [cond_false,beq_self_eq_true];simp
   | true=>rw [cond_true,beq_self_eq_true];rfl
 ·show (toS (mdH R) ((zC R).getD k 0)==0||toS (mdH R) ((zC R).getD k 0)==(zC R).getD (k+1) 0)=true
  rcases zpk (R:=R) (k:=k) (by omega) with h | ⟨_,h⟩ <;> rw [h,beq_self_eq_true] <;> simp
 ·show (frS (mdH R) ((zC R).getD (k+1) 0)==0||frS (mdH R) ((zC R).getD (k+1) 0)==(zC R).getD k 0)=true
  rcases zpn (R:=R) (k:=k+1) hk with h | ⟨_,h⟩ <;> rw [h]
  ·rfl
  ·rw [Nat.add_sub_cancel,beq_self_eq_true];simp
theorem z7A {R:Raw}:∀ k,k≤nM R→z3Y (mdH R) (zP R 30) (zhh R k)
 | 0,_=>trivial
 | k+1,hk=>by
  have ih:=z7A (R:=R) k (by omega)
  obtain ⟨h1,h2⟩:=zhm (R:=R) (k:=k) (by omega)
  refine ⟨ih,h1,?_⟩
  cases k with
  | zero =>
   show okR (mdH R) (zP R 30) [] (tI R 0)=true
   rw [zaB,h2]
   rcases zpn (R:=R) (k:=0) (by omega) with h | ⟨h,_⟩
   ·show (frS (mdH R) ((zC R).getD 0 0)==0)=true
    rw [h];rfl
   ·exact absurd h (Nat.lt_irrefl 0)
  | succ k =>
   have hc:(zhh R (k+1)).contains (tI R (k+1))=false:=by
    rw [←Bool.not_eq_true,List.contains_iff_mem]
    intro hm
    obtain ⟨i,hi,e⟩:=zen hm
    have:=zoP (R:=R) (by omega) (by omega) e
    omega
   show okR (mdH R) (zP R 30) (tI R k::zhh R k) (tI R (k+1))=true
   rw [z4v hc,h2,(zhm (R:=R) (k:=k) (by omega)).2]
   exact zpm (by omega)
theorem zlJ {R:Raw}:∀ k,k≤nM R→zQ (zP R 30) (zhh R k)=z9j R k
 | 0,_=>rfl
 | k+1,hk=>by
  show zQ (zP R 30) (tI R k::zhh R k)=_
  rw [z8g,zlJ k (by omega),(zhm (R:=R) (k:=k) (by omega)).2,zbA]
theorem zbz {R:Raw} {n k:Nat} (hk:k<n):zi (z9j R n) k=z5x R k:=by
 unfold zi z9j
 rw [zt (show k<((List.range n).map (z5x R)).length by rw [List.length_map,List.length_range];exact hk),List.getElem_map,List.getElem_range]
theorem za3 (R:Raw) (i w:Nat):∀ n,(z6Q R i n).testBit w=(decide (w<n)&&zcW R i w)
 | 0=>by show (0:Nat).testBit w=_;rw [Nat.zero_testBit,decide_eq_false (Nat.not_lt_zero w)];rfl
 | n+1=>by
  have ih:=za3 R i w n
  show (bif zcW R i n then z6Q R i n ||| 1 <<< n else z6Q R i n).testBit w=_
  by_cases c:w=n
  ·subst c
   rw [decide_eq_true (Nat.lt_succ_self w),Bool.true_and]
   rw [decide_eq_false (Nat.lt_irrefl w),Bool.false_and] at ih
   cases hb:zcW R i w with
   | true=>rw [cond_true,Nat.testBit_or,Nat.one_shiftLeft,Nat.testBit_two_pow,decide_eq_true rfl,Bool.or_true]
   | false=>exact ih
  ·have e:decide (w<n+1)=decide (w<n):=by rw [Bool.eq_iff_iff,decide_eq_true_iff,decide_eq_true_iff];omega
   rw [e,←ih]
   cases zcW R i n with
   | true=>rw [cond_true,Nat.testBit_or,Nat.one_shiftLeft,Nat.testBit_two_pow,decide_eq_false (fun h=>c h.symm),Bool.or_false]
   | false=>rfl
theorem zev (R:Raw) (k w:Nat):z7J (z5x R k) w=((z6Q R k (nW R)).testBit w && !(zhe R k).testBit w):=by
 show (zjS R k).testBit w=_
 unfold zjS
 rw [Nat.testBit_xor,Nat.testBit_and]
 cases (z6Q R k (nW R)).testBit w <;> cases (zhe R k).testBit w <;> rfl
theorem zkd (R:Raw) (k w:Nat):zgI (z5x R k) w=((z6Q R k (nW R)).testBit w||(zhe R k).testBit w):=by
 show (zjS R k ||| zhe R k).testBit w=_
 rw [Nat.testBit_or]
 unfold zjS
 rw [Nat.testBit_xor,Nat.testBit_and]
 cases (z6Q R k (nW R)).testBit w <;> cases (zhe R k).testBit w <;> rfl
theorem zk5 {R:Raw}:y8 (z9j R (nM R)) 12=0:=by
 rw [zb7]
 intro w _
 rw [←Bool.not_eq_true,ze1]
 rintro ⟨i,j,k,hij,hjk,hk,hi,hj,hk2⟩
 rw [z5w] at hk
 rw [zbz (by omega),zev,za3,yw,yw] at hi
 rw [zbz hk,zev,za3,yw,yw] at hk2
 rw [zbz (by omega),zkd,za3,Bool.or_eq_false_iff] at hj
 have h1:=hi.1.2
 have h2:=hk2.1.2
 have h3:=hj.1
 rw [hi.1.1,Bool.true_and] at h3
 unfold zcW at h1 h2 h3
 rw [yw,decide_eq_true_iff,decide_eq_true_iff] at h1 h2
 have:(decide (zV (woN R w).1 7≤Int.ofNat j)&&decide (Int.ofNat j≤zV (woN R w).1 7+zV (woN R w).2 4))=true:=by
  rw [yw,decide_eq_true_iff,decide_eq_true_iff]
  simp only [yl] at *
  omega
 rw [this] at h3;cases h3
theorem zho (R:Raw):(zP R 30).length=nM R:=by
 refine Nat.le_antisymm ?_ ?_
 ·have h1:((zP R 30).map (·.id)).Nodup:=by
   rw [List.nodup_iff_pairwise_ne,List.pairwise_map]
   exact (zbv 30).imp fun h=>Int.ne_of_lt h
  have h2:=z3y (m:=zC R) h1 fun y hy=>by
   obtain ⟨s,hs,rfl⟩:=List.mem_map.1 hy
   obtain ⟨i,k,_,_,_,hk,_,rfl⟩:=z6p 30 hs
   rw [z3I]
   exact z09 (by rw [z1u];exact hk)
  rw [List.length_map,z1u] at h2
  exact h2
 ·have:=z3y (l:=zhh R (nM R)) (m:=List.range (zP R 30).length) (z9f (z7A _ (ym _))) fun x hx=>List.mem_range.2 (z9g (z7A _ (ym _)) x hx)
  rw [zae,List.length_range] at this
  exact this
theorem zk4 (R:Raw):zhh R (nM R)∈zu (mdH R) 3:=by
 unfold zu
 rw [zpQ]
 refine List.mem_filter.2 ⟨rows_iff.2 ⟨z7A _ (ym _),by rw [zae,zho]⟩,?_⟩
 unfold zck
 rw [zlJ _ (ym _),zk5,yw]
 refine ⟨?_,rfl⟩
 unfold zbt
 rw [allB_iff]
 intro k hk
 rw [z5w] at hk
 unfold okT
 rw [zbz hk,Bool.or_eq_true,yw,z5w]
 rcases zpk hk with h | ⟨h1,h⟩
 ·exact .inl (by rw [z3I,h];rfl)
 ·refine .inr ⟨decide_eq_true h1,?_⟩
  rw [zbz h1,z3I,z3I,h,beq_self_eq_true]
theorem zpl (R:Raw):0<(zu (mdH R) 3).length:=List.length_pos_of_mem (zk4 R)
theorem zo4 {h:Hp} {p:Int} (e:ppE h p=0) {o:List Int} (ho:o∈ordI h p):zjU h p o=0:=by
 obtain ⟨row,h1,rfl⟩:=List.mem_map.1 ho
 have hi:zaM h p (zT h p row)=true:=by
  unfold zaM
  exact List.any_eq_true.2 ⟨row,h1,beq_self_eq_true _⟩
 unfold zjU
 rw [if_pos e,hi];rfl
structure Less (h d:Hp):Prop where
 okh:OkH h
 okd:OkH d
 len:d.st.length=h.st.length
 id:∀ k,k<h.st.length→(zi d.st k).id=(zi h.st k).id
 paper:∀ k,k<h.st.length→(zi d.st k).paper=(zi h.st k).paper
 first:∀ k,k<h.st.length→(zi d.st k).first=(zi h.st k).first∨(zi d.st k).first=0
 catch_:∀ k,k<h.st.length→(zi d.st k).catch_=(zi h.st k).catch_∨(zi d.st k).catch_=0
 has:∀ k,k<h.st.length→∀ w,z7J (zi d.st k) w=true→z7J (zi h.st k) w=true
 may:∀ k,k<h.st.length→∀ w,zgI (zi h.st k) w=true→zgI (zi d.st k) w=true
 sw:∀ x∈d.sw,x∈h.sw
theorem zkR {l m:List Sht} {p:Int} (hl:m.length=l.length) (hp:∀ k,k<l.length→(zi m k).paper=(zi l k).paper):z4N m p=z4N l p:=by
 have:∀ k,k≤l.length→zaJ m p k=zaJ l p k:=fun k=>by
  induction k with
  | zero=>intro _;rfl
  | succ k ih =>
   intro hk
   show (bif (zi m k).paper==p then zaJ m p k++[k] else zaJ m p k)=(bif (zi l k).paper==p then zaJ l p k++[k] else zaJ l p k)
   rw [ih (by omega),hp k (by omega)]
 unfold z4N
 rw [hl];exact this _ (ym _)
theorem zmi {l:List Sht} {p:Int} {i:Nat} (hi:i<(zJ l p).length):zi (zJ l p) i=zi l (zU (z4N l p) i)∧zU (z4N l p) i<l.length:=by
 have hb:=z4z (l:=l) (p:=p)
 have hlen:(z4N l p).length=(zJ l p).length:=by rw [←hb,List.length_map]
 have hi2:i<(z4N l p).length:=by omega
 refine ⟨?_,z8A _ _ (z09 (d:=0) hi2)⟩
 rw [←hb]
 unfold zi zU
 rw [zt (show i<((z4N l p).map fun i=>l.getD i default).length by rw [List.length_map];exact hi2),List.getElem_map,zt hi2]
theorem Less.bun {h d:Hp} (n:Less h d) (p:Int):(zJ d.st p).length=(zJ h.st p).length∧∀ i,i<(zJ h.st p).length→∃ k,k<h.st.length∧zi (zJ h.st p) i=zi h.st k∧zi (zJ d.st p) i=zi d.st k:=by
 have hl:=zkR (p:=p) n.len n.paper
 have e:(zJ d.st p).length=(zJ h.st p).length:=by
  rw [←z4z,←z4z,List.length_map,List.length_map,hl]
 refine ⟨e,fun i hi=>?_⟩
 obtain ⟨h1,h2⟩:=zmi hi
 obtain ⟨h3,_⟩:=zmi (l:=d.st) (p:=p) (i:=i) (by omega)
 rw [hl] at h3
 exact ⟨_,h2,h1,h3⟩
theorem znQ {h:Hp} (n:OkH h) {x y:Sew} (hx:x∈h.sw) (hy:y∈h.sw) (e:x.fro=y.fro):x=y:=by
 obtain ⟨i,hi,rfl⟩:=z0y (d:=default) hx
 obtain ⟨j,hj,rfl⟩:=z0y (d:=default) hy
 have hlt:∀ {a b:Nat},a<b→b<h.sw.length→(zB h.sw a).fro<(zB h.sw b).fro:=fun {a b} hab hb=>by
  obtain ⟨c,rfl⟩:∃ c,b=a+c+1:=⟨b - a - 1,by omega⟩
  clear hab
  induction c with
  | zero=>exact n.froms (a+1) (Nat.succ_pos _) hb
  | succ c ih=>exact Int.lt_trans (ih (by omega)) (n.froms (a+(c+1)+1) (Nat.succ_pos _) hb)
 rcases Nat.lt_trichotomy i j with c | c | c
 ·have:(zB h.sw i).fro<(zB h.sw j).fro:=hlt c hj
  have e:(zB h.sw i).fro=(zB h.sw j).fro:=e
  omega
 ·rw [c]
 ·have:(zB h.sw j).fro<(zB h.sw i).fro:=hlt c hi
  have e:(zB h.sw i).fro=(zB h.sw j).fro:=e
  omega
theorem zmF {h:Hp} (n:OkH h) {x y:Sew} (hx:x∈h.sw) (hy:y∈h.sw) (e:x.too=y.too):x=y:=by
 obtain ⟨i,hi,rfl⟩:=z0y (d:=default) hx
 obtain ⟨j,hj,rfl⟩:=z0y (d:=default) hy
 rcases Nat.lt_trichotomy i j with c | c | c
 ·exact absurd e (n.toos j hj i c)
 ·rw [c]
 ·exact absurd e.symm (n.toos i hi j c)
theorem Less.to {h d:Hp} (n:Less h d) (id:Int):toS d id=0∨toS d id=toS h id:=by
 rcases z3R n.okd id with ⟨j,hj,h1,h2⟩ | ⟨_,h2⟩
 ·refine .inr ?_
  have hm:=n.sw _ (show zB d.sw j∈d.sw from z09 hj)
  rcases z3R n.okh id with ⟨i,hi,g1,g2⟩ | ⟨g1,_⟩
  ·have:=znQ n.okh hm (show zB h.sw i∈h.sw from z09 hi) (h1.trans g1.symm)
   rw [h2,g2,this]
  ·obtain ⟨i,hi,e⟩:=z0y (d:=default) hm
   have e:zB h.sw i=zB d.sw j:=e
   exact absurd (by rw [e];exact h1) (g1 i hi)
 ·exact .inl h2
theorem Less.fr {h d:Hp} (n:Less h d) (id:Int):frS d id=0∨frS d id=frS h id:=by
 rcases z4d n.okd id with ⟨j,hj,h1,h2⟩ | ⟨_,h2⟩
 ·refine .inr ?_
  have hm:=n.sw _ (show zB d.sw j∈d.sw from z09 hj)
  rcases z4d n.okh id with ⟨i,hi,g1,g2⟩ | ⟨g1,_⟩
  ·have:=zmF n.okh hm (show zB h.sw i∈h.sw from z09 hi) (h1.trans g1.symm)
   rw [h2,g2,this]
  ·obtain ⟨i,hi,e⟩:=z0y (d:=default) hm
   have e:zB h.sw i=zB d.sw j:=e
   exact absurd (by rw [e];exact h1) (g1 i hi)
 ·exact .inl h2
theorem Less.mayB {h d:Hp} (n:Less h d) {i k:Nat} (hi:i<h.st.length) (hk:k<h.st.length) (hm:mayB h (zi h.st i) (zi h.st k)=true):mayB d (zi d.st i) (zi d.st k)=true:=by
 unfold Go.Proofs.YtdpipdniklognaaGreat.mayB at hm ⊢
 rw [yw,yw] at hm ⊢
 obtain ⟨h1,h2,h3⟩:=hm
 refine ⟨?_,?_,?_⟩
 ·rw [Bool.or_eq_true,Bool.or_eq_true,beq_iff_eq,beq_iff_eq,beq_iff_eq] at h1 ⊢
  rcases n.catch_ i hi with c | c
  ·rcases n.first k hk with f | f
   ·rw [c,f];exact h1
   ·exact .inr (.inr f)
  ·exact .inr (.inl c)
 ·rw [Bool.or_eq_true,beq_iff_eq,beq_iff_eq] at h2 ⊢
  rw [n.id i hi,n.id k hk]
  rcases n.to (zi h.st i).id with c | c
  ·exact .inl c
  ·rw [c];exact h2
 ·rw [Bool.or_eq_true,beq_iff_eq,beq_iff_eq] at h3 ⊢
  rw [n.id i hi,n.id k hk]
  rcases n.fr (zi h.st k).id with c | c
  ·exact .inl c
  ·rw [c];exact h3
theorem Less.all {h d:Hp} (n:Less h d) {p:Int}:∀ {row:List Nat},z3Y h (zJ h.st p) row→z3Y d (zJ d.st p) row
 | [],_=>trivial
 | a::t,⟨g1,g2,g3⟩=>by
  obtain ⟨e1,e2⟩:=n.bun p
  refine ⟨n.all g1,by omega,?_⟩
  obtain ⟨ka,a1,a2,a3⟩:=e2 a g2
  cases t with
  | nil =>
   rw [zaB,beq_iff_eq] at g3 ⊢
   rw [a2] at g3
   rw [a3,n.id ka a1]
   rcases n.fr (zi h.st ka).id with c | c
   ·exact c
   ·rw [c];exact g3
  | cons j t =>
   have hc:(j::t).contains a=false:=by
    rw [←Bool.not_eq_true]
    intro hc
    rw [z8s hc] at g3;cases g3
   rw [z4v hc] at g3 ⊢
   obtain ⟨kj,b1,b2,b3⟩:=e2 j g1.2.1
   rw [a2,b2] at g3
   rw [a3,b3]
   exact n.mayB b1 a1 g3
theorem zeD {l:List Sht} {row:List Nat} {k:Nat} (hk:k<row.length):zi (zQ l row) k=zi l (zU row.reverse k):=by
 unfold zQ zi zU
 rw [zt (show k<(row.reverse.map fun i=>l.getD i default).length by rw [List.length_map,List.length_reverse];exact hk),List.getElem_map]
 exact congrArg (fun i=>l.getD i default) (zt (by rw [List.length_reverse];exact hk)).symm
theorem Less.row {h d:Hp} (n:Less h d) {p:Int} {row:List Nat} (ha:z3Y h (zJ h.st p) row) {k:Nat} (hk:k<row.length):∃ i,i<h.st.length∧zi (zQ (zJ h.st p) row) k=zi h.st i∧zi (zQ (zJ d.st p) row) k=zi d.st i:=by
 rw [zeD hk,zeD hk]
 have hm:zU row.reverse k∈row:=List.mem_reverse.1 (z09 (by rw [List.length_reverse];exact hk))
 exact (n.bun p).2 _ (z9g ha _ hm)
theorem Less.ord {h d:Hp} (n:Less h d) {p:Int} {row:List Nat} (hr:row∈zu h p):row∈zu d p:=by
 obtain ⟨h1,h2⟩:=List.mem_filter.1 hr
 obtain ⟨ha,hl⟩:=rows_iff.1 h1
 refine List.mem_filter.2 ⟨rows_iff.2 ⟨n.all ha,by rw [hl,(n.bun p).1]⟩,?_⟩
 unfold zck at h2 ⊢
 rw [yw] at h2 ⊢
 obtain ⟨g1,g2⟩:=h2
 refine ⟨?_,?_⟩
 ·unfold zbt at g1 ⊢
  rw [allB_iff] at g1 ⊢
  intro k hk
  rw [z0x] at hk
  have g:=g1 k (by rw [z0x];exact hk)
  obtain ⟨i,i1,i2,i3⟩:=n.row ha hk
  unfold okT at g ⊢
  rw [z0x] at g ⊢
  rw [i2] at g
  rw [i3,n.id i i1]
  rw [Bool.or_eq_true,yw,beq_iff_eq,beq_iff_eq,decide_eq_true_iff] at g ⊢
  rcases n.to (zi h.st i).id with c | c
  ·exact .inl c
  ·rcases g with g | ⟨g,g'⟩
   ·exact .inl (c.trans g)
   ·refine .inr ⟨g,?_⟩
    obtain ⟨i',j1,j2,j3⟩:=n.row ha g
    rw [j3,n.id i' j1,c,←g',j2]
 ·have g2:=eq_of_beq g2
  rw [zb7] at g2
  rw [beq_iff_eq,zb7]
  intro w hw
  rw [←Bool.not_eq_true,ze1]
  rintro ⟨i,j,k,hij,hjk,hk,hi,hj,hk2⟩
  rw [z0x] at hk
  obtain ⟨a,a1,a2,a3⟩:=n.row ha (show i<row.length by omega)
  obtain ⟨b,b1,b2,b3⟩:=n.row ha (show j<row.length by omega)
  obtain ⟨c,c1,c2,c3⟩:=n.row ha hk
  rw [a3] at hi
  rw [b3] at hj
  rw [c3] at hk2
  have hbf:zgI (zi h.st b) w=false:=by
   rw [←Bool.not_eq_true]
   intro g
   rw [n.may b b1 w g] at hj;cases hj
  have:=(ze1 (l:=zQ (zJ h.st p) row) (w:=w)).2 ⟨i,j,k,hij,hjk,(by rw [z0x];exact hk),(by rw [a2];exact n.has a a1 w hi),(by rw [b2];exact hbf),(by rw [c2];exact n.has c c1 w hk2)⟩
  rw [g2 w hw] at this;cases this
theorem Less.ids {h d:Hp} (n:Less h d) {p:Int} {row:List Nat} (hr:row∈zu h p):zT d p row=zT h p row:=by
 obtain ⟨ha,hl⟩:=z5G hr
 rw [zaQ,zaQ]
 refine List.map_congr_left fun i hi=>?_
 obtain ⟨k,k1,k2,k3⟩:=(n.bun p).2 i (z9g ha i (List.mem_reverse.1 hi))
 rw [k2,k3,n.id k k1]
theorem Less.ordI {h d:Hp} (n:Less h d) {p:Int} {ids:List Int} (hi:ids∈ordI h p):ids∈ordI d p:=by
 obtain ⟨row,hr,rfl⟩:=List.mem_map.1 hi
 exact List.mem_map.2 ⟨row,n.ord hr,n.ids hr⟩
theorem zg1 {h:Hp} {p:Int}:(zu h p).Nodup:=(zcl (h:=h) (l:=zJ h.st p) _ (row0:=[]) trivial).sublist List.filter_sublist
theorem Less.count {h d:Hp} (n:Less h d) {p:Int}:(zu h p).length≤(zu d p).length:=z3y zg1 fun _ hx=>n.ord hx
theorem Less.some {h d:Hp} (n:Less h d) {p:Int} {y:Int×Int} (hy:y∈zeY h p):y∈zeY d p:=by
 rw [zdv n.okh] at hy
 rw [zdv n.okd]
 obtain ⟨ids,h1,h2⟩:=hy
 exact ⟨ids,n.ordI h1,h2⟩
end
section
variable {r:Rm}
def eqW (x y:Sew):Bool:=(x.fro==y.fro)&&((x.too==y.too)&&true)
theorem z4E {b:Bool} {l:List Sew} {x:Sew} (hl:l.length<9223372036854775808):VP (sE r) 35 [.p (z92 b l),.agg ((zgk x).map .p)] (bv (l.any fun y=>eqW y x)):=by
 refine VP.of (fn:=Tryz.f35) za (zD rfl) (by kernel_rfl) rfl rfl rfl ?_
 refine VSt.go za false [] 200 rfl AllP.n ?_
 refine z02 (z00 0 (zgk x) rfl rfl) ?_
 refine z0G (ti:=5) l.length [0,3] (fun _=>[]) (fun _=>[]) (fun k=>∀ q,q<k→eqW (zB l q) x=false) rfl rfl z0X trivial none0 (fun k hk hp=>?_)
 refine VSt.go za false [] 200 rfl AllP.n ?_
 refine VSt.cond rfl (fun g=>?_) (fun g=>?_)
 ·have g:=nlt g
  refine VSt.go za false [] 200 rfl (AllP.c ‹_› (AllP.c rfl AllP.n)) ?_
  refine VSt.cond rfl (fun h1=>?_) (fun h1=>?_)
  ·refine VSt.go za false [] 200 rfl AllP.n ?_
   refine EndsP.mk rfl rfl rfl ?_
   have h1:eqW (zB l k) x=true:=h1
   rw [ze6 (p:=fun y=>eqW y x) g h1];rfl
  ·refine VSt.go za false [] 200 rfl (AllP.c (by unfold inR;(try simp only [yl]);omega) AllP.n) ?_
   exact ⟨g,by (refine Vw.drop (by repeat (first | exact zw | refine zo rfl rfl rfl ?_ | refine z0k rfl ‹_› (z08 _ ‹_›) ?_))),z16 hp h1⟩
 ·have g:k=l.length:=by have:=nge g;omega
  subst g
  refine VSt.go za false [] 200 rfl AllP.n ?_
  refine EndsP.mk rfl rfl rfl ?_
  rw [zbe (p:=fun y=>eqW y x) hp];rfl
theorem eqW_iff {x y:Sew}:eqW x y=true ↔ x=y:=by
 cases x;cases y
 unfold eqW
 rw [yw,Bool.and_true,beq_iff_eq,beq_iff_eq]
 exact ⟨fun ⟨h1,h2⟩=>by cases h1;cases h2;rfl,fun h=>by cases h;exact ⟨rfl,rfl⟩⟩
theorem zjB {l:List Sew} {x:Sew}:(l.any fun y=>eqW y x)=true ↔ x∈l:=by
 rw [List.any_eq_true]
 exact ⟨fun ⟨y,h1,h2⟩=>eqW_iff.1 h2 ▸ h1,fun h=>⟨x,h,eqW_iff.2 rfl⟩⟩
theorem zhW {h:Hp} {p:Int} (e:ppE h p=0) (hl:0<(zu h p).length):z7u h p=0:=by
 unfold z7u;rw [if_pos e,if_pos hl]
theorem zeR {h:Hp} {p:Int} {m:Nat} (hm:m<(zu h p).length):y5 h p m∈ordI h p:=by
 rw [z5e (List.getElem?_eq_getElem hm)]
 exact List.mem_map.2 ⟨_,List.getElem_mem hm,rfl⟩
theorem zmJ {h:Hp} {p:Int} (hO:OkH h):(zcS h p).length<9223372036854775808∧(zW h p).length<9223372036854775808:=by
 obtain ⟨h1,h2⟩:=z7O (p:=p) hO
 have hat:∀ n,(zaj (atC (zgJ h p) n)).length≤1000000:=fun n=>by
  unfold zaj atC
  rw [List.length_map,(z0H _).length_eq,List.length_map]
  exact yn (List.length_filter_le _ _) h2
 have a1:=hat (Int.ofNat (zu h p).length)
 have a2:=hat 1
 constructor
 ·unfold zcS
  by_cases e:z7u h p=0
  ·rw [if_pos e];unfold zer;omega
  ·rw [if_neg e];decide
 ·unfold zW
  by_cases e:z7u h p=0
  ·rw [if_pos e];unfold zeY;omega
  ·rw [if_neg e];decide
theorem zqG (R:Raw):SzH (mdH R):=zqD (zkQ R) (fun h=>List.isEmpty_iff.1 h) (fun h=>List.isEmpty_iff.1 h)
theorem zj7:∀ {l m:List Int},l.length=m.length→l≠m→∃ j,j<l.length∧l.getD j 0≠m.getD j 0∧∀ q,q<j→l.getD q 0=m.getD q 0
 | [],[],_,e=>absurd rfl e
 | [],_::_,el,_=>by cases el
 | _::_,[],el,_=>by cases el
 | a::l,b::m,el,e=>by
  by_cases c:a=b
  ·subst c
   obtain ⟨j,h1,h2,h3⟩:=zj7 (l:=l) (m:=m) (Nat.succ.inj el) fun g=>e (by rw [g])
   refine ⟨j+1,Nat.succ_lt_succ h1,h2,fun q hq=>?_⟩
   cases q with
   | zero=>rfl
   | succ q=>exact h3 q (Nat.lt_of_succ_lt_succ hq)
  ·exact ⟨0,Nat.succ_pos _,c,none0⟩
theorem zey {b1 b2:Bool} {l m:List Int} (hl:l.length<9223372036854775808) (hm:m.length<9223372036854775808):VP (sE r) 25 [.p (z1V b1 l),.p (z1V b2 m)] (bv (l==m)):=by
 by_cases e:l=m
 ·subst e
  rw [beq_self_eq_true];exact zmQ hl
 rw [show (l==m)=false from beq_eq_false_iff_ne.2 e]
 by_cases el:l.length=m.length
 ·obtain ⟨j,h1,h2,h3⟩:=zj7 el e
  refine VP.of (fn:=Tryz.f25) za (zD rfl) (by kernel_rfl) rfl rfl rfl ?_
  refine VSt.go za false [] 200 rfl AllP.n ?_
  refine VSt.cond rfl (fun h=>(zds (show (!(Int.ofNat l.length==Int.ofNat l.length))=true from by rw [←el] at h;exact h)).elim) (fun _=>?_)
  refine VSt.go za false [] 200 rfl AllP.n ?_
  refine z0G (ti:=5) j [0,1] (fun _=>[]) (fun _=>[]) (fun _=>True) rfl rfl z0X trivial trivial (fun k hk hp=>?_)
  have g1:k<l.length:=by omega
  have g2:k<m.length:=by omega
  refine VSt.go za false [] 200 rfl AllP.n ?_
  refine VSt.cond rfl (fun _=>?_) (fun g=>absurd g1 (by have:=nge g;omega))
  refine VSt.go za false [] 200 rfl (AllP.c ‹_› (AllP.c rfl (AllP.c ‹_› (AllP.c rfl AllP.n)))) ?_
  refine VSt.cond rfl (fun q=>?_) (fun q=>?_)
  ·refine VSt.go za false [] 200 rfl AllP.n ?_
   exact EndsP.mk rfl rfl rfl rfl
  ·have q:(!(l.getD k 0==m.getD k 0))=false:=q
   rw [Bool.not_eq_false',beq_iff_eq] at q
   have g:k<j:=by
    by_cases c:k=j
    ·subst c;exact absurd q h2
    ·omega
   refine VSt.go za false [] 200 rfl (AllP.c (by unfold inR;(try simp only [yl]);omega) AllP.n) ?_
   exact ⟨g,by (refine Vw.drop (by repeat (first | exact zw | refine zo rfl rfl rfl ?_ | refine z0k rfl ‹_› (z08 _ ‹_›) ?_))),trivial⟩
 ·have q0:(!(Int.ofNat l.length==Int.ofNat m.length))=true:=by
   rw [Bool.not_eq_true',beq_eq_false_iff_ne]
   intro h
   simp only [yl] at h;omega
  refine VP.of (fn:=Tryz.f25) za (zD rfl) (by kernel_rfl) rfl rfl rfl ?_
  refine VSt.go za false [] 200 rfl AllP.n ?_
  refine VSt.cond rfl (fun _=>?_) (fun q=>absurd (q.symm.trans q0) (by decide))
  refine VSt.go za false [] 200 rfl AllP.n ?_
  exact EndsP.mk rfl rfl rfl rfl
theorem zju {b1 b2:Bool} {l m:List Int} {j:Nat} (hl:l.length<9223372036854775808) (hm:m.length<9223372036854775808) (h1:j<l.length) (h2:j<m.length) (h3:∀ q,q<j→l.getD q 0=m.getD q 0) (h4:l.getD j 0<m.getD j 0):VP (sE r) 41 [.p (z1V b1 l),.p (z1V b2 m)] (bv true):=by
 refine VP.of (fn:=Tryz.f41) za (zD rfl) (by kernel_rfl) rfl rfl rfl ?_
 refine VSt.go za false [] 200 rfl AllP.n ?_
 refine z0G (ti:=5) j [0,1] (fun _=>[]) (fun _=>[]) (fun _=>True) rfl rfl z0X trivial trivial (fun k hk hp=>?_)
 have g1:k<l.length:=by omega
 have g2:k<m.length:=by omega
 refine VSt.go za false [] 200 rfl AllP.n ?_
 refine zb 10 rfl (fun q=>?_) (fun q=>?_)
 rotate_left
 ·exact absurd g1 (by have:=nge q;omega)
 refine VSt.go za false [] 200 rfl AllP.n ?_
 refine VSt.cond rfl (fun _=>?_) (fun g=>absurd g2 (by have:=nge g;omega))
 refine VSt.go za false [] 200 rfl (AllP.c ‹_› (AllP.c rfl (AllP.c ‹_› (AllP.c rfl AllP.n)))) ?_
 refine VSt.cond rfl (fun q=>?_) (fun q=>?_)
 ·have q:(!(l.getD k 0==m.getD k 0))=true:=q
  rw [Bool.not_eq_true',beq_eq_false_iff_ne] at q
  have g:k=j:=by
   by_cases c:k<j
   ·exact absurd (h3 k c) q
   ·omega
  subst g
  refine VSt.go za false [] 200 rfl (AllP.c ‹_› (AllP.c rfl (AllP.c ‹_› (AllP.c rfl AllP.n)))) ?_
  refine EndsP.mk rfl rfl rfl ?_
  show bv (decide (l.getD k 0<m.getD k 0))=_
  rw [decide_eq_true h4]
 ·have q:(!(l.getD k 0==m.getD k 0))=false:=q
  rw [Bool.not_eq_false',beq_iff_eq] at q
  have g:k<j:=by
   by_cases c:k=j
   ·subst c;omega
   ·omega
  refine VSt.go za false [] 200 rfl (AllP.c (by unfold inR;(try simp only [yl]);omega) AllP.n) ?_
  exact ⟨g,by (refine Vw.drop (by repeat (first | exact zw | refine zo rfl rfl rfl ?_ | refine z0k rfl ‹_› (z08 _ ‹_›) ?_))),trivial⟩
def zlA (x y:List Nat):Prop:=∃ p1 p2 i k t,x=p1++i::t∧y=p2++k::t∧i<k
theorem zm3 {h:Hp} {l:List Sht}:∀ f {row0:List Nat},z3Y h l row0→(z4O h l f row0).Pairwise zlA
 | 0,row0,_=>List.pairwise_singleton ..
 | f+1,row0,h0=>by
  show ((List.range l.length).flatMap fun i=>bif okR h l row0 i then z4O h l f (i::row0) else []).Pairwise zlA
  rw [List.pairwise_flatMap]
  refine ⟨fun i hi=>?_,(List.pairwise_lt_range (n:=l.length)).imp_of_mem fun {i k} hi hk hik x hx y hy=>?_⟩
  ·cases hk:okR h l row0 i with
   | false=>exact List.Pairwise.nil
   | true=>exact zm3 f (row0:=i::row0) ⟨h0,List.mem_range.1 hi,hk⟩
  ·have last:∀ {x} i,x∈(bif okR h l row0 i then z4O h l f (i::row0) else [])→i<l.length→∃ pre,x=pre++i::row0:=fun {x} i hx hi=>by
    cases hk:okR h l row0 i with
    | false=>rw [hk] at hx;cases hx
    | true =>
     rw [hk] at hx
     obtain ⟨_,pre,e,_⟩:=(z8R f (row0:=i::row0) ⟨h0,hi,hk⟩).1 hx
     exact ⟨pre,e⟩
   obtain ⟨p1,a1⟩:=last i hx (List.mem_range.1 hi)
   obtain ⟨p2,b1⟩:=last k hy (List.mem_range.1 hk)
   exact ⟨p1,p2,i,k,row0,a1,b1,hik⟩
theorem znc {h:Hp} {p:Int}:(zu h p).Pairwise zlA:=(zm3 (h:=h) (l:=zJ h.st p) _ (row0:=[]) trivial).sublist List.filter_sublist
theorem zpy {h:Hp} {p:Int} (hO:OkH h) {x y:List Nat} (hx:x∈zu h p) (hy:y∈zu h p) (hlt:zlA x y):∃ j,j<(zT h p x).length∧j<(zT h p y).length∧(∀ q,q<j→(zT h p x).getD q 0=(zT h p y).getD q 0)∧(zT h p x).getD j 0<(zT h p y).getD j 0:=by
 obtain ⟨p1,p2,i,k,t,rfl,rfl,hik⟩:=hlt
 have hk:k<(zJ h.st p).length:=z9g (z5G hy).1 k (List.mem_append.2 (.inr List.mem_cons_self))
 have key:∀ (p:Int) (p1:List Nat) (i:Nat),zT h p (p1++i::t)=(t.reverse.map fun i=>(zi (zJ h.st p) i).id)++(zi (zJ h.st p) i).id::(p1.reverse.map fun i=>(zi (zJ h.st p) i).id):=fun p p1 i=>by
  rw [zaQ,List.reverse_append,List.reverse_cons,List.map_append,List.map_append,List.append_assoc];rfl
 rw [key,key]
 generalize ha:(t.reverse.map fun i=>(zi (zJ h.st p) i).id)=a
 refine ⟨a.length,?_,?_,fun q hq=>?_,?_⟩
 ·rw [List.length_append,List.length_cons];omega
 ·rw [List.length_append,List.length_cons];omega
 ·rw [List.getD_eq_getElem?_getD,List.getD_eq_getElem?_getD,List.getElem?_append_left hq,List.getElem?_append_left hq]
 ·rw [List.getD_eq_getElem?_getD,List.getD_eq_getElem?_getD,List.getElem?_append_right (ym _),List.getElem?_append_right (ym _),Nat.sub_self]
  exact zb6 hO hik hk
theorem zeS {h:Hp} {p:Int} {k:Nat} (hk:k<(zu h p).length):y5 h p k=(ordI h p).getD k []:=by
 rw [z5e (List.getElem?_eq_getElem hk),zt (show k<(ordI h p).length by unfold ordI;rw [List.length_map];exact hk)]
 unfold ordI
 rw [List.getElem_map]
theorem zpf {h:Hp} {p:Int} (hO:OkH h) {k:Nat} (hk:k+1<(zu h p).length):∃ j,j<(y5 h p k).length∧j<(y5 h p (k+1)).length∧(∀ q,q<j→(y5 h p k).getD q 0=(y5 h p (k+1)).getD q 0)∧(y5 h p k).getD j 0<(y5 h p (k+1)).getD j 0:=by
 rw [z5e (List.getElem?_eq_getElem hk),z5e (List.getElem?_eq_getElem (show k<(zu h p).length by omega))]
 exact zpy hO (List.getElem_mem _) (List.getElem_mem _) ((List.pairwise_iff_getElem.1 znc) k (k+1) (by omega) hk (Nat.lt_succ_self k))
theorem zi8 {h:Hp} {p:Int} (hO:OkH h) {k:Nat} (hk:k<(zu h p).length):(y5 h p k).Nodup:=by
 rw [z5e (List.getElem?_eq_getElem hk)]
 exact zcg hO (z5G (List.getElem_mem hk)).1
theorem nbr_mem {ids:List Int} {y:Int×Int}:y∈y7 ids ↔ ∃ q,q+1<ids.length∧ids.getD q 0=y.1∧ids.getD (q+1) 0=y.2:=by
 unfold y7
 rw [List.mem_iff_getElem?]
 constructor
 ·rintro ⟨q,hq⟩
  rw [List.getElem?_zip_eq_some] at hq
  obtain ⟨h1,h2⟩:=hq
  rw [List.getElem?_tail] at h2
  obtain ⟨g1,g2⟩:=List.getElem?_eq_some_iff.1 h1
  obtain ⟨g3,g4⟩:=List.getElem?_eq_some_iff.1 h2
  exact ⟨q,g3,by rw [zt g1,g2],by rw [zt g3,g4]⟩
 ·rintro ⟨q,h1,h2,h3⟩
  refine ⟨q,?_⟩
  rw [List.getElem?_zip_eq_some,List.getElem?_tail]
  rw [zt (by omega)] at h2
  rw [zt h1] at h3
  exact ⟨by rw [List.getElem?_eq_getElem (by omega),h2],by rw [List.getElem?_eq_getElem h1,h3]⟩
theorem znr {ids:List Int} (hn:ids.Nodup) {y:Int×Int} (h:y∈y7 ids):∃ q,(z7c ids fun x=>x==y.1)=Int.ofNat q∧q+1<ids.length∧ids.getD (q+1) 0=y.2:=by
 obtain ⟨q,h1,h2,h3⟩:=nbr_mem.1 h
 refine ⟨q,z7I (by omega) ?_ fun i hi=>?_,h1,h3⟩
 ·show (ids.getD q 0==y.1)=true
  rw [h2,beq_self_eq_true]
 ·show (ids.getD i 0==y.1)=false
  rw [beq_eq_false_iff_ne,←h2,zt (by omega),zt (by omega)]
  intro e
  have:=(List.getElem_inj hn).1 e
  omega
theorem zpg {ids:List Int} {y:Int×Int} (h:y ∉ y7 ids):(z7c ids fun x=>x==y.1) = -1∨∃ q,(z7c ids fun x=>x==y.1)=Int.ofNat q∧q<ids.length∧(ids.length≤q+1∨(q+1<ids.length∧ids.getD (q+1) 0≠y.2)):=by
 rcases z4D ids (fun x=>x==y.1) with e | ⟨q,e⟩
 ·exact .inl e
 ·obtain ⟨h1,h2,_⟩:=z4C e
  refine .inr ⟨q,e,h1,?_⟩
  by_cases c:q+1<ids.length
  ·exact .inr ⟨c,fun g=>h (nbr_mem.2 ⟨q,c,eq_of_beq h2,g⟩)⟩
  ·exact .inl (by omega)
def tiN (h:Hp) (p:Int) (k:Nat) (y:Int×Int):Nat:=zdN y ((ordI h p).take k)
theorem zoN {h:Hp} {p:Int} {k:Nat} {y:Int×Int}:tiN h p k y≤k:=by
 unfold tiN zdN
 exact yn (List.length_filter_le _ _) (by rw [List.length_take];omega)
theorem zk6 {h:Hp} {p:Int} {k:Nat} {y:Int×Int} (hk:k<(zu h p).length):tiN h p (k+1) y=if y∈y7 (y5 h p k) then tiN h p k y+1 else tiN h p k y:=by
 have hk2:k<(ordI h p).length:=by unfold ordI;rw [List.length_map];exact hk
 have e:=zeS (p:=p) hk
 unfold tiN zdN
 rw [List.take_add_one,List.getElem?_eq_getElem hk2,List.filter_append,List.length_append,e,zt hk2]
 generalize (ordI h p)[k]=ids
 have ha:((y7 ids).any fun x=>decide (y=x))=decide (y∈y7 ids):=by
  rw [Bool.eq_iff_iff,List.any_eq_true,decide_eq_true_iff]
  exact ⟨fun ⟨x,h1,h2⟩=>by rw [of_decide_eq_true h2];exact h1,fun g=>⟨y,g,decide_eq_true rfl⟩⟩
 show _+(List.filter (fun ids=>(y7 ids).any fun x=>decide (y=x)) [ids]).length=_
 by_cases c:y∈y7 ids
 ·rw [if_pos c,List.filter_cons_of_pos (by rw [ha];exact decide_eq_true c)];rfl
 ·rw [if_neg c,List.filter_cons_of_neg (by rw [ha,decide_eq_false c];decide)];rfl
theorem zk7 {h:Hp} {p:Int} {y:Int×Int}:tiN h p (zu h p).length y=zdN y (ordI h p):=by
 unfold tiN
 rw [show (zu h p).length=(ordI h p).length by unfold ordI;rw [List.length_map],List.take_length]
theorem zoM {h:Hp} {p:Int} (hO:OkH h) (hl:0<(zu h p).length) {y:Int×Int} (hy:y∈zeY h p):0<tiN h p (zu h p).length y∧(tiN h p (zu h p).length y=(zu h p).length ↔ y∈zer h p):=by
 obtain ⟨h1,h2⟩:=zb0 (p:=p) hO y
 rw [zk7]
 unfold zeY at hy
 rw [at_mem h1 (by decide),h2] at hy
 unfold zer
 rw [at_mem h1 (by simp only [yl];omega),h2]
 have hle:zdN y (ordI h p)≤(ordI h p).length:=List.length_filter_le _ _
 have e:(ordI h p).length=(zu h p).length:=List.length_map _
 simp only [yl] at hy ⊢
 omega
theorem zoQ {h:Hp} {p:Int} (hO:OkH h) (hl:0<(zu h p).length):(zer h p).length≤(zeY h p).length:=by
 have hn:(zer h p).Nodup:=by
  unfold zer atC
  rw [(z0H _).nodup_iff]
  have h1:=(zb0 (p:=p) hO (0,0)).1
  unfold Nd at h1
  exact h1.sublist (List.filter_sublist.map _)
 refine z3y hn fun x hx=>?_
 rw [zhn hO hl] at hx
 rw [zdv hO]
 obtain ⟨ids,hi⟩:=List.exists_mem_of_length_pos (l:=ordI h p) (by unfold ordI;rw [List.length_map];exact hl)
 exact ⟨ids,hi,hx ids hi⟩
def zcT (h:Hp) (p:Int) (o:List Int) (k:Nat):Bool:=((ordI h p).take k).any fun ids=>ids==o
theorem zcq {h:Hp} {p:Int} {o:List Int} {k:Nat} (hk:k<(zu h p).length):zcT h p o (k+1)=(zcT h p o k||(y5 h p k==o)):=by
 have hk2:k<(ordI h p).length:=by unfold ordI;rw [List.length_map];exact hk
 unfold zcT
 rw [zeS hk,zt hk2,List.take_add_one,List.getElem?_eq_getElem hk2,List.any_append]
 show _=(_||_)
 congr 1
 show (_||false)=_
 rw [Bool.or_false]
theorem zim {h:Hp} {p:Int} {o:List Int}:zaM h p o=true ↔ o∈ordI h p:=by
 unfold zaM ordI
 rw [List.any_eq_true,List.mem_map]
 exact ⟨fun ⟨row,h1,h2⟩=>⟨row,h1,eq_of_beq h2⟩,fun ⟨row,h1,h2⟩=>⟨row,h1,by rw [h2,beq_self_eq_true]⟩⟩
theorem ziX {h:Hp} {p:Int} {o:List Int} {k:Nat} (hf:zcT h p o k=true):zaM h p o=true:=by
 unfold zcT at hf
 obtain ⟨x,h1,h2⟩:=List.any_eq_true.1 hf
 rw [zim,←eq_of_beq h2]
 exact List.mem_of_mem_take h1
theorem znA {h:Hp} {p:Int} {o:List Int}:zcT h p o (zu h p).length=zaM h p o:=by
 rw [Bool.eq_iff_iff]
 refine ⟨ziX,fun g=>?_⟩
 rw [zim] at g
 unfold zcT
 rw [show (zu h p).length=(ordI h p).length by unfold ordI;rw [List.length_map],List.take_length]
 exact List.any_eq_true.2 ⟨o,g,beq_self_eq_true _⟩
def zml (R:Raw) (o:List Int):List Int:=if o.length=0 then zC R else o
theorem AImp.litV {b:Bool}:AImp (.lit b) (bv b):=fun _ _ _ _ _ h=>by
 cases h;exact .p (.bool _)
def pW (s:Sew):Int×Int:=(s.fro,s.too)
theorem znu {h:Hp} {p:Int} (hO:OkH h):(zW h p).length≤1048576:=by
 obtain ⟨h1,h2⟩:=z7O (p:=p) hO
 unfold zW
 by_cases e:z7u h p=0
 ·rw [if_pos e]
  unfold zaj zeY atC
  rw [List.length_map,(z0H _).length_eq,List.length_map]
  exact yn (List.length_filter_le _ _) (by omega)
 ·rw [if_neg e];exact yu _
noncomputable def tiV (h:Hp) (k j:Nat):Nat:=tiN h 3 k (pW (zB (zW h 3) j))
noncomputable def tiF (h:Hp) (k m:Nat):Nat→List PV:=fun j=>[.int .i64 (Int.ofNat (bif Nat.blt j m then tiV h (k+1) j else tiV h k j))]
theorem tiF_zero {h:Hp} {j:Nat}:tiF h 0 0 j=[.int .i64 0]:=rfl
theorem z81 {h:Hp} {k m j:Nat}:tiF h k m j=[.int .i64 (Int.ofNat (bif Nat.blt j m then tiV h (k+1) j else tiV h k j))]:=rfl
theorem tiX {h:Hp} {k m:Nat}:Int.ofNat (bif Nat.blt (0+m) m then tiV h (k+1) (0+m) else tiV h k (0+m))=Int.ofNat (tiV h k m):=by
 rw [Nat.zero_add,show Nat.blt m m=false from z9q (Nat.lt_irrefl m)];rfl
theorem tiY {h:Hp} {k m:Nat}:Int.ofNat (bif Nat.blt (0+m) 0 then tiV h (k+1) (0+m) else tiV h k (0+m))=Int.ofNat (tiV h k m):=by
 rw [Nat.zero_add];rfl
theorem zmH {h:Hp} {k m j:Nat} (e:¬ j=m):tiF h k m j=tiF h k (m+1) j:=by
 rw [z81,z81]
 by_cases c2:j<m
 ·rw [show Nat.blt j m=true from z9a c2,show Nat.blt j (m+1)=true from z9a (by omega)]
 ·rw [show Nat.blt j m=false from z9q (by omega),show Nat.blt j (m+1)=false from z9q (by omega)]
theorem zhj {h:Hp} {k m:Nat} (e:tiV h (k+1) m=tiV h k m) (j:Nat):tiF h k m j=tiF h k (m+1) j:=by
 rw [z81,z81]
 by_cases c:j=m
 ·subst c
  rw [show Nat.blt j j=false from z9q (Nat.lt_irrefl j),show Nat.blt j (j+1)=true from z9a (Nat.lt_succ_self j),cond_false,cond_true,e]
 ·by_cases c2:j<m
  ·rw [show Nat.blt j m=true from z9a c2,show Nat.blt j (m+1)=true from z9a (by omega)]
  ·rw [show Nat.blt j m=false from z9q (by omega),show Nat.blt j (m+1)=false from z9q (by omega)]
theorem zmI {h:Hp} {k j n:Nat} (hj:j<n):tiF h k n j=tiF h (k+1) 0 j:=by
 rw [z81,z81,show Nat.blt j n=true from z9a hj,show Nat.blt j 0=false from rfl];rfl
def lastB (h:Hp) (p:Int):Nat→List Int
 | 0=>[]
 | k+1=>y5 h p k
set_option maxHeartbeats 16000000 in
theorem zdC {t:Tr (List Value×TypeId)} {R:Raw} {b:Bool} {o:List Int} (hR:SzR R) (ho:o.length<9223372036854775808):VP (sE (t,true)) 6 [.agg ((zmb R).map .p),.p (z1V b o)] (bv true):=by
 have hM:=zkQ R
 have hz:=zqG R
 have hpp:=zqE hM
 have hpos:=zpl R
 have eo:=zhW hpp hpos
 obtain ⟨l1,l2⟩:=zmJ (p:=3) hM
 have l3:=znu (p:=3) hM
 have hlenM:∀ q,(y5 (mdH R) 3 q).length<9223372036854775808:=fun q=>zkK hM
 have h1:0<min (zu (mdH R) 3).length 1000:=by omega
 have c0:=zol (r:=(t,true)) hR
 have c2:=zlD (r:=(t,true)) (p:=3) hz
 have c3:=zok (r:=(t,true)) (p:=3) hz
 have c4:=zq6 (r:=(t,true)) (p:=3) hz
 have c5:=zlB (r:=(t,true)) (p:=3) hz
 rw [show zq9 (mdH R) 3=y5 (mdH R) 3 0 from if_pos hpp] at c5
 rw [hpp] at c2
 rw [show zqh (mdH R) 3=Int.ofNat (min (zu (mdH R) 3).length 1000) from if_pos hpp] at c2
 rw [eo] at c3 c4 c5
 have hao:(zml R o).length<9223372036854775808:=by
  unfold zml
  split
  ·rw [z1u];have:=zkN R;omega
  ·exact ho
 have c6:=fun bb=>z6f (r:=(t,true)) (p:=3) (b:=bb) (o:=zml R o) hz hao
 have hnl:min (zu (mdH R) 3).length 1000≤(zu (mdH R) 3).length:=Nat.min_le_left _ _
 have hnm:min (zu (mdH R) 3).length 1000≤1000:=Nat.min_le_right _ _
 have hnf:min (zu (mdH R) 3).length 1000<1000→min (zu (mdH R) 3).length 1000=(zu (mdH R) 3).length:=by omega
 generalize min (zu (mdH R) 3).length 1000=n at *
 refine VP.of (fn:=Tryz.f6) za (zD rfl) (by kernel_rfl) rfl rfl rfl ?_
 refine VSt.go za false [] 200 rfl AllP.n ?_
 refine zf (z00 0 (zmb R) rfl rfl) ?_
 refine VSt.go za false [] 200 rfl AllP.n ?_
 refine VSt.pc rfl rfl rfl rfl rfl rfl rfl rfl (c0) ?_
 refine VSt.go za false [] 200 rfl AllP.n ?_
 refine ways (O:=True) (T:=?T) (Nat.eq_zero_or_pos o.length) ?tail ?ha ?hb
 case ha =>
  intro hx tail
  refine VSt.cond rfl (fun _=>?_) (fun q=>absurd (show (Int.ofNat o.length==0)=false from q) (by rw [hx];decide))
  refine VSt.go za false [37] 200 rfl AllP.n ?_
  refine z0a 1 (.p (z1V (bif Nat.beq o.length 0 then (zC R).isEmpty else b) (zml R o))) rfl (z04 (by unfold zml;rw [if_pos hx,hx];rfl)) ?_
  refine zf (Vw.kp [1,5] [(0,0)] rfl) ?_
  exact tail trivial
 case hb =>
  intro hx tail
  refine VSt.cond rfl (fun q=>absurd (eq_of_beq (show (Int.ofNat o.length==0)=true from q)) (by simp only [yl];omega)) (fun _=>?_)
  refine VSt.go za false [37] 200 rfl AllP.n ?_
  refine z0a 1 (.p (z1V (bif Nat.beq o.length 0 then (zC R).isEmpty else b) (zml R o))) rfl (z04 (by unfold zml;rw [if_neg (by omega),ze2 (show ¬ o.length=0 by omega)];rfl)) ?_
  refine zf (Vw.kp [1,5] [(0,0)] rfl) ?_
  exact tail trivial
 rintro -
 generalize (bif Nat.beq o.length 0 then (zC R).isEmpty else b)=bb
 have c6:=c6 bb
 generalize zml R o=oo at *
 refine VSt.go za false [] 200 rfl AllP.n ?_
 refine VSt.pc rfl rfl rfl rfl rfl rfl rfl rfl (c2) ?_
 refine VSt.go za false [] 200 rfl AllP.n ?_
 refine VSt.pc rfl rfl rfl rfl rfl rfl rfl rfl (c3) ?_
 refine VSt.go za false [] 200 rfl AllP.n ?_
 refine VSt.pc rfl rfl rfl rfl rfl rfl rfl rfl (c4) ?_
 refine VSt.go za false [] 200 rfl AllP.n ?_
 refine VSt.pc rfl rfl rfl rfl rfl rfl rfl rfl (c5) ?_
 refine VSt.go za false [] 200 rfl AllP.n ?_
 refine zb 58 rfl (fun q=>?_) (fun q=>?_)
 ·exact absurd q (by decide)
 refine VSt.go za false [] 200 rfl AllP.n ?_
 refine zb 62 rfl (fun q=>?_) (fun q=>?_)
 ·exact absurd q (by decide)
 refine VSt.go za false [] 200 rfl AllP.n ?_
 refine zb 66 rfl (fun q=>?_) (fun q=>?_)
 ·exact absurd q (by decide)
 refine VSt.go za false [] 200 rfl AllP.n ?_
 refine zb 70 rfl (fun q=>?_) (fun q=>?_)
 ·exact absurd q (by decide)
 refine VSt.go za false [] 200 rfl AllP.n ?_
 refine VSt.cond rfl (fun q=>?_) (fun _=>?_)
 ·exact absurd (of_decide_eq_true (show decide (Int.ofNat n<1)=true from q)) (by simp only [yl];omega)
 refine VSt.go za false [] 200 rfl AllP.n ?_
 refine VSt.pc rfl rfl rfl rfl rfl rfl rfl rfl (c6) ?_
 refine VSt.go za false [] 200 rfl (AllP.c (by omega) (AllP.c ‹_› AllP.n)) ?_
 refine VSt.putC 16 (bv (zcT (mdH R) 3 oo 0)) rfl AImp.litV ?_
 refine z02 (Vw.kp [1,5,7,9,11,13,15,16,17,18,19] [(1,1),(0,0)] rfl) ?_
 refine z0G (ti:=19) n [1,5,7,9,11,13,15,17] (fun k=>[(16,bv (zcT (mdH R) 3 oo k)),(18,.p (eL (lastB (mdH R) 3 k)))]) (fun k=>[(1,.arr (zW (mdH R) 3).length 1 (tiF (mdH R) k 0) 3),(0,.cells [.p (z0M (zP R 30).isEmpty (zP R 30)),.p (z92 (zS R 30).isEmpty (zS R 30))] 25)]) (fun _=>True) rfl rfl (z2s rfl (AImp.refl _) (z2s rfl AImp.nil z0X)) ⟨rfl,BImp.arr (fun j _=>tiF_zero.symm),rfl,BImp.refl _,trivial⟩ trivial (fun k hk _=>?_)
 refine VSt.go za false [] 200 rfl AllP.n ?_
 refine VSt.cond rfl (fun g=>?_) (fun g=>?_)
 ·have g:=nlt g
  have hkl:k<(zu (mdH R) 3).length:=by omega
  have cN:=zmp (r:=(t,true)) (p:=3) (n:=Int.ofNat k) hz
  obtain ⟨n1,n2⟩:=zdq (h:=mdH R) (p:=3) (n:=Int.ofNat k) hpp (by
   rw [yw,wth_iff,decide_eq_true_iff]
   simp only [yl];omega)
  rw [n1,n2,show Int.toNat (Int.ofNat k)=k from rfl] at cN
  have cK:=z6f (r:=(t,true)) (p:=3) (b:=(y5 (mdH R) 3 k).isEmpty) (o:=y5 (mdH R) 3 k) hz (hlenM k)
  rw [zo4 hpp (zeR hkl)] at cK
  refine VSt.go za false [] 200 rfl AllP.n ?_
  refine VSt.pc rfl rfl rfl rfl rfl rfl rfl rfl (cN) ?_
  refine VSt.go za false [] 200 rfl AllP.n ?_
  have hbf:0<k→∃ j,j<(lastB (mdH R) 3 k).length∧j<(y5 (mdH R) 3 k).length∧(∀ q,q<j→(lastB (mdH R) 3 k).getD q 0=(y5 (mdH R) 3 k).getD q 0)∧(lastB (mdH R) 3 k).getD j 0<(y5 (mdH R) 3 k).getD j 0:=by
   cases k with
   | zero=>intro h;exact absurd h (Nat.lt_irrefl 0)
   | succ k=>intro _;exact zpf hM hkl
  have hlB:(lastB (mdH R) 3 k).length<9223372036854775808:=by
   cases k with
   | zero=>show ([]:List Int).length<9223372036854775808;decide
   | succ k=>exact hlenM k
  refine zb 94 rfl (fun q=>?_) (fun q=>?_)
  ·exact absurd q (by decide)
  refine VSt.go za false [] 200 rfl AllP.n ?_
  refine ways (O:=True) (T:=?T2) (Nat.eq_zero_or_pos k) ?tail2 ?ha2 ?hb2
  case ha2 =>
   intro hx tail
   refine zb 97 rfl (fun q=>?_) (fun q=>?_)
   rotate_left
   ·rw [hx] at q;exact absurd q (by decide)
   refine VSt.go za false [] 200 rfl AllP.n ?_
   refine VSt.pc rfl rfl rfl rfl rfl rfl rfl rfl ((zey (b1:=(y5 (mdH R) 3 k).isEmpty) (b2:=(y5 (mdH R) 3 0).isEmpty) (hlenM k) (hlenM 0))) ?_
   refine VSt.go za false [] 200 rfl AllP.n ?_
   refine zb 104 rfl (fun q=>?_) (fun q=>?_)
   ·have q:(!(y5 (mdH R) 3 k==y5 (mdH R) 3 0))=true:=q
    rw [hx,beq_self_eq_true] at q;cases q
   refine VSt.go za false [] 200 rfl AllP.n ?_
   refine zb 107 rfl (fun q=>?_) (fun q=>?_)
   ·exact absurd (n0 q) (by omega)
   refine VSt.go za false [] 200 rfl (AllP.c (by omega) AllP.n) ?_
   refine zb 118 rfl (fun q=>?_) (fun q=>?_)
   ·refine VSt.go za false [] 200 rfl AllP.n ?_
    refine VSt.pc rfl rfl rfl rfl rfl rfl rfl rfl (cK) ?_
    refine VSt.go za false [] 200 rfl AllP.n ?_
    refine VSt.cond rfl (fun q=>absurd q (by decide)) (fun _=>?_)
    refine VSt.go za false [125] 200 rfl AllP.n ?_
    refine zf (Vw.kp [1,5,7,9,11,13,15,16,17,18,19,20] [(1,1),(0,0)] rfl) ?_
    exact tail trivial
   ·refine VSt.go za false [125] 200 rfl AllP.n ?_
    refine zf (Vw.kp [1,5,7,9,11,13,15,16,17,18,19,20] [(1,1),(0,0)] rfl) ?_
    exact tail trivial
  case hb2 =>
   intro hx tail
   obtain ⟨j,j1,j2,j3,j4⟩:=hbf hx
   refine zb 97 rfl (fun q=>?_) (fun q=>?_)
   ·exact absurd (eq_of_beq (show (Int.ofNat k==0)=true from q)) (by simp only [yl];omega)
   refine VSt.go za false [] 200 rfl AllP.n ?_
   refine zb 107 rfl (fun q=>?_) (fun q=>?_)
   rotate_left
   ·exact absurd hx (by have:=n0' q;omega)
   refine VSt.go za false [] 200 rfl AllP.n ?_
   refine VSt.pc rfl rfl rfl rfl rfl rfl rfl rfl ((zju (b1:=(lastB (mdH R) 3 k).isEmpty) (b2:=(y5 (mdH R) 3 k).isEmpty) hlB (hlenM k) j1 j2 j3 j4)) ?_
   refine VSt.go za false [] 200 rfl AllP.n ?_
   refine zb 114 rfl (fun q=>?_) (fun q=>?_)
   ·exact absurd q (by decide)
   refine VSt.go za false [] 200 rfl (AllP.c (by omega) AllP.n) ?_
   refine zb 118 rfl (fun q=>?_) (fun q=>?_)
   ·refine VSt.go za false [] 200 rfl AllP.n ?_
    refine VSt.pc rfl rfl rfl rfl rfl rfl rfl rfl (cK) ?_
    refine VSt.go za false [] 200 rfl AllP.n ?_
    refine VSt.cond rfl (fun q=>absurd q (by decide)) (fun _=>?_)
    refine VSt.go za false [125] 200 rfl AllP.n ?_
    refine zf (Vw.kp [1,5,7,9,11,13,15,16,17,18,19,20] [(1,1),(0,0)] rfl) ?_
    exact tail trivial
   ·refine VSt.go za false [125] 200 rfl AllP.n ?_
    refine zf (Vw.kp [1,5,7,9,11,13,15,16,17,18,19,20] [(1,1),(0,0)] rfl) ?_
    exact tail trivial
  rintro -
  refine ways (O:=True) (T:=?T3) (Bool.eq_false_or_eq_true (zcT (mdH R) 3 oo k)) ?tail3 ?ha3 ?hb3
  case ha3 =>
   intro hx tail
   refine VSt.go za false [] 200 rfl AllP.n ?_
   refine zb 126 rfl (fun q=>?_) (fun q=>?_)
   rotate_left
   ·exact absurd (hx.symm.trans q) (by decide)
   refine VSt.go za false [22] 200 rfl AllP.n ?_
   refine z0a 16 (bv (zcT (mdH R) 3 oo (k+1))) rfl (by rw [zcq hkl,hx,Bool.true_or];exact AImp.litV) ?_
   refine zf (Vw.kp [1,5,7,9,11,13,15,16,17,19,20] [(1,1),(0,0)] rfl) ?_
   exact tail trivial
  case hb3 =>
   intro hx tail
   refine VSt.go za false [] 200 rfl AllP.n ?_
   refine zb 126 rfl (fun q=>?_) (fun q=>?_)
   ·exact absurd (hx.symm.trans q) (by decide)
   refine VSt.go za false [] 200 rfl AllP.n ?_
   refine VSt.pc rfl rfl rfl rfl rfl rfl rfl rfl ((zey (b1:=(y5 (mdH R) 3 k).isEmpty) (b2:=bb) (hlenM k) hao)) ?_
   refine VSt.go za false [22] 200 rfl AllP.n ?_
   refine z0a 16 (bv (zcT (mdH R) 3 oo (k+1))) rfl (by rw [zcq hkl,hx,Bool.false_or];exact AImp.refl _) ?_
   refine zf (Vw.kp [1,5,7,9,11,13,15,16,17,19,20] [(1,1),(0,0)] rfl) ?_
   exact tail trivial
  rintro -
  refine VSt.go za false [] 200 rfl AllP.n ?_
  refine z0G (ti:=22) (zW (mdH R) 3).length [1,5,7,9,11,13,15,16,17,19,20] (fun _=>[]) (fun m=>[(1,.arr (zW (mdH R) 3).length 1 (tiF (mdH R) k m) 3),(0,.cells [.p (z0M (zP R 30).isEmpty (zP R 30)),.p (z92 (zS R 30).isEmpty (zS R 30))] 25)]) (fun _=>True) rfl rfl z0X (LImp.refl _) trivial (fun m hm _=>?_)
  refine VSt.go za false [] 200 rfl AllP.n ?_
  refine VSt.cond rfl (fun g2=>?_) (fun g2=>?_)
  ·have g2:=nlt g2
   have hnd:=zi8 (p:=3) hM hkl
   have hmb:=hlenM k
   have cI:=z8l (r:=(t,true)) (b:=(y5 (mdH R) 3 k).isEmpty) (l:=y5 (mdH R) 3 k) (n:=(zB (zW (mdH R) 3) m).fro) (hlenM k)
   have hti:tiV (mdH R) (k+1) m=if pW (zB (zW (mdH R) 3) m)∈y7 (y5 (mdH R) 3 k) then tiV (mdH R) k m+1 else tiV (mdH R) k m:=zk6 hkl
   have hno:pW (zB (zW (mdH R) 3) m) ∉ y7 (y5 (mdH R) 3 k)→((zcS (mdH R) 3).any fun y=>eqW y (zB (zW (mdH R) 3) m))=false:=fun c=>by
    rw [←Bool.not_eq_true,zjB]
    unfold zcS
    rw [if_pos eo]
    intro hx
    obtain ⟨y,y1,y2⟩:=List.mem_map.1 hx
    rw [zhn hM hpos] at y1
    refine c ?_
    rw [←y2]
    exact y1 _ (zeR hkl)
   by_cases c:pW (zB (zW (mdH R) 3) m)∈y7 (y5 (mdH R) 3 k)
   ·obtain ⟨q,q1,q2,q3⟩:=znr hnd c
    rw [show (pW (zB (zW (mdH R) 3) m)).1=(zB (zW (mdH R) 3) m).fro from rfl] at q1
    rw [q1] at cI
    refine VSt.go za false [] 200 rfl (AllP.c ‹_› (AllP.c rfl AllP.n)) ?_
    refine VSt.pc rfl rfl rfl rfl rfl rfl rfl rfl (cI) ?_
    refine VSt.go za false [] 200 rfl AllP.n ?_
    refine z05 146 rfl (fun w=>?_) (fun w=>?_)
    rotate_left
    ·exact absurd (of_decide_eq_false (show decide (0≤Int.ofNat q)=false from w)) (by simp only [yl];omega)
    refine VSt.go za false [149] 200 rfl (AllP.c (by unfold inR;(try simp only [yl]);omega) AllP.n) ?_
    refine z0f 148 (nv (q+1)) rfl (z2y rfl) ?_
    refine VSt.go za false [] 200 rfl AllP.n ?_
    refine z05 153 rfl (fun w=>?_) (fun w=>?_)
    rotate_left
    ·exact absurd q2 (by have:=nge w;omega)
    refine VSt.go za false [157] 200 rfl (AllP.c (by unfold inR;(try simp only [yl]);omega) AllP.n) ?_
    refine z0f 156 (nv (q+1)) rfl (z2y rfl) ?_
    refine VSt.go za false [] 200 rfl (AllP.c ‹_› (AllP.c rfl (AllP.c ‹_› (AllP.c rfl AllP.n)))) ?_
    refine VSt.cond rfl (fun _=>?_) (fun w=>?_)
    rotate_left
    ·have w:((y5 (mdH R) 3 k).getD (q+1) 0==(zB (zW (mdH R) 3) m).too)=false:=w
     rw [q3] at w
     exact absurd (beq_self_eq_true _) (by rw [show (pW (zB (zW (mdH R) 3) m)).2=(zB (zW (mdH R) 3) m).too from rfl] at w;rw [w];decide)
    have htl:tiV (mdH R) k m≤k:=zoN
    refine VSt.go za false [170] 200 rfl (AllP.c ‹_› (AllP.c rfl (AllP.c (by omega) (AllP.c rfl AllP.n)))) ?_
    refine z0a 169 (nv (tiV (mdH R) k m)) rfl (z2y tiX) ?_
    refine VSt.go za false [] 200 rfl (AllP.c (by unfold inR;(try simp only [yl]);omega) (AllP.c ‹_› (AllP.c rfl (AllP.c (by omega) (AllP.c rfl (AllP.c (ym _) (AllP.c (by unfold inR;(try simp only [yl]);omega) AllP.n))))))) ?_
    refine ⟨g2,?_,trivial⟩
    refine z0F (ps:=[(1,1),(0,0)]) ⟨rfl,rfl,(by repeat (first | exact zw | refine zo rfl rfl rfl ?_)),_,rfl,(⟨rfl,BImp.arr (fun j _=>?_),rfl,BImp.refl _,trivial⟩)⟩
    show (bif Nat.beq j (0+m) then [PV.int .i64 (Int.ofNat (tiV (mdH R) k m)+1)] else tiF (mdH R) k m j)=tiF (mdH R) k (m+1) j
    rw [Nat.zero_add]
    by_cases e:j=m
    ·subst e
     rw [show Nat.beq j j=true from Nat.beq_refl _,cond_true,z81,show Nat.blt j (j+1)=true from z9a (Nat.lt_succ_self j),cond_true,hti,if_pos c];rfl
    ·rw [ze2 e,cond_false,zmH e]
   ·rcases zpg c with q1 | ⟨q,q1,q2,q3⟩
    ·rw [show (pW (zB (zW (mdH R) 3) m)).1=(zB (zW (mdH R) 3) m).fro from rfl] at q1
     rw [q1] at cI
     refine VSt.go za false [] 200 rfl (AllP.c ‹_› (AllP.c rfl AllP.n)) ?_
     refine VSt.pc rfl rfl rfl rfl rfl rfl rfl rfl (cI) ?_
     refine VSt.go za false [] 200 rfl AllP.n ?_
     refine z05 146 rfl (fun w=>?_) (fun w=>?_)
     ·exact absurd (of_decide_eq_true (show decide ((0:Int)≤-1)=true from w)) (by decide)
     refine VSt.go za false [] 200 rfl (AllP.c ‹_› (AllP.c rfl AllP.n)) ?_
     refine VSt.pc rfl rfl rfl rfl rfl rfl rfl rfl ((z4E (l:=zcS (mdH R) 3) (x:=zB (zW (mdH R) 3) m) l1)) ?_
     rw [hno c]
     refine VSt.go za false [] 200 rfl AllP.n ?_
     refine VSt.cond rfl (fun w=>absurd w (by decide)) (fun _=>?_)
     refine VSt.go za false [] 200 rfl (AllP.c (by unfold inR;(try simp only [yl]);omega) AllP.n) ?_
     exact ⟨g2,by refine z0F (ps:=[(1,1),(0,0)]) ⟨rfl,rfl,(by repeat (first | exact zw | refine zo rfl rfl rfl ?_)),_,rfl,(⟨rfl,BImp.arr (fun j _=>zhj (hti.trans (if_neg c)) j),rfl,BImp.refl _,trivial⟩)⟩,trivial⟩
    ·rw [show (pW (zB (zW (mdH R) 3) m)).1=(zB (zW (mdH R) 3) m).fro from rfl] at q1
     rw [q1] at cI
     refine VSt.go za false [] 200 rfl (AllP.c ‹_› (AllP.c rfl AllP.n)) ?_
     refine VSt.pc rfl rfl rfl rfl rfl rfl rfl rfl (cI) ?_
     refine VSt.go za false [] 200 rfl AllP.n ?_
     refine z05 146 rfl (fun w=>?_) (fun w=>?_)
     rotate_left
     ·exact absurd (of_decide_eq_false (show decide (0≤Int.ofNat q)=false from w)) (by simp only [yl];omega)
     refine VSt.go za false [149] 200 rfl (AllP.c (by unfold inR;(try simp only [yl]);omega) AllP.n) ?_
     refine z0f 148 (nv (q+1)) rfl (z2y rfl) ?_
     refine VSt.go za false [] 200 rfl AllP.n ?_
     rcases q3 with q3 | ⟨q3,q4⟩
     ·refine z05 153 rfl (fun w=>?_) (fun w=>?_)
      ·exact absurd (nlt w) (by omega)
      refine VSt.go za false [] 200 rfl (AllP.c ‹_› (AllP.c rfl AllP.n)) ?_
      refine VSt.pc rfl rfl rfl rfl rfl rfl rfl rfl ((z4E (l:=zcS (mdH R) 3) (x:=zB (zW (mdH R) 3) m) l1)) ?_
      rw [hno c]
      refine VSt.go za false [] 200 rfl AllP.n ?_
      refine VSt.cond rfl (fun w=>absurd w (by decide)) (fun _=>?_)
      refine VSt.go za false [] 200 rfl (AllP.c (by unfold inR;(try simp only [yl]);omega) AllP.n) ?_
      exact ⟨g2,by refine z0F (ps:=[(1,1),(0,0)]) ⟨rfl,rfl,(by repeat (first | exact zw | refine zo rfl rfl rfl ?_)),_,rfl,(⟨rfl,BImp.arr (fun j _=>zhj (hti.trans (if_neg c)) j),rfl,BImp.refl _,trivial⟩)⟩,trivial⟩
     ·refine z05 153 rfl (fun w=>?_) (fun w=>?_)
      rotate_left
      ·exact absurd q3 (by have:=nge w;omega)
      refine VSt.go za false [157] 200 rfl (AllP.c (by unfold inR;(try simp only [yl]);omega) AllP.n) ?_
      refine z0f 156 (nv (q+1)) rfl (z2y rfl) ?_
      refine VSt.go za false [] 200 rfl (AllP.c ‹_› (AllP.c rfl (AllP.c ‹_› (AllP.c rfl AllP.n)))) ?_
      refine VSt.cond rfl (fun w=>?_) (fun w=>?_)
      ·exact absurd (eq_of_beq (show ((y5 (mdH R) 3 k).getD (q+1) 0==(zB (zW (mdH R) 3) m).too)=true from w)) q4
      refine VSt.go za false [] 200 rfl (AllP.c ‹_› (AllP.c rfl AllP.n)) ?_
      refine VSt.pc rfl rfl rfl rfl rfl rfl rfl rfl ((z4E (l:=zcS (mdH R) 3) (x:=zB (zW (mdH R) 3) m) l1)) ?_
      rw [hno c]
      refine VSt.go za false [] 200 rfl AllP.n ?_
      refine VSt.cond rfl (fun w=>absurd w (by decide)) (fun _=>?_)
      refine VSt.go za false [] 200 rfl (AllP.c (by unfold inR;(try simp only [yl]);omega) AllP.n) ?_
      exact ⟨g2,by refine z0F (ps:=[(1,1),(0,0)]) ⟨rfl,rfl,(by repeat (first | exact zw | refine zo rfl rfl rfl ?_)),_,rfl,(⟨rfl,BImp.arr (fun j _=>zhj (hti.trans (if_neg c)) j),rfl,BImp.refl _,trivial⟩)⟩,trivial⟩
  ·have g2:m=(zW (mdH R) 3).length:=by have:=nge g2;omega
   subst g2
   refine VSt.go za false [] 200 rfl (AllP.c (by unfold inR;(try simp only [yl]);omega) AllP.n) ?_
   exact ⟨g,by refine z0F (ps:=[(1,1),(0,0)]) ⟨rfl,rfl,(by repeat (first | exact zw | refine zo rfl rfl rfl ?_)),_,rfl,(⟨rfl,BImp.arr (fun j hj=>zmI hj),rfl,BImp.refl _,trivial⟩)⟩,trivial⟩
 ·have g:k=n:=by have:=nge g;omega
  subst g
  have cN:=zmp (r:=(t,true)) (p:=3) (n:=Int.ofNat k) hz
  obtain ⟨n1,n2⟩:=z8t (h:=mdH R) (p:=3) (n:=Int.ofNat k) hpp (by
   rw [←Bool.not_eq_true,yw,wth_iff,decide_eq_true_iff]
   simp only [yl]
   by_cases c:k<1000
   ·have:=hnf c;omega
   ·omega)
  rw [n1,n2] at cN
  refine VSt.go za false [] 200 rfl AllP.n ?_
  refine VSt.pc rfl rfl rfl rfl rfl rfl rfl rfl (cN) ?_
  refine VSt.go za false [] 200 rfl AllP.n ?_
  refine zb 187 rfl (fun w=>?_) (fun w=>?_)
  ·exact absurd w (by decide)
  refine VSt.go za false [] 200 rfl AllP.n ?_
  refine zb 194 rfl (fun w=>?_) (fun w=>?_)
  ·have w:decide (Int.ofNat (zW (mdH R) 3).length<Int.ofNat (zcS (mdH R) 3).length)=true:=w
   have:=nlt w
   have h2:=zoQ hM hpos (p:=3)
   have e1:(zW (mdH R) 3).length=(zeY (mdH R) 3).length:=by unfold zW zaj;rw [if_pos eo,List.length_map]
   have e2:(zcS (mdH R) 3).length=(zer (mdH R) 3).length:=by unfold zcS zaj;rw [if_pos eo,List.length_map]
   omega
  have hchk:(zjU (mdH R) 3 oo==0)=zaM (mdH R) 3 oo:=by
   rw [show zjU (mdH R) 3 oo=(bif zaM (mdH R) 3 oo then 0 else 52) from if_pos hpp]
   cases zaM (mdH R) 3 oo <;> rfl
  refine ways (O:=True) (T:=?T4) (Nat.lt_or_ge k 1000) ?tail4 ?ha4 ?hb4
  case ha4 =>
   intro hx tail
   have hkl:=hnf hx
   have hfi:zcT (mdH R) 3 oo k=zaM (mdH R) 3 oo:=by rw [hkl];exact znA
   refine VSt.go za false [] 200 rfl AllP.n ?_
   refine zb 197 rfl (fun w=>?_) (fun w=>?_)
   rotate_left
   ·exact absurd hx (by have:=nge (n:=1000) w;omega)
   refine VSt.go za false [] 200 rfl AllP.n ?_
   refine zb 203 rfl (fun w=>?_) (fun w=>?_)
   ·have w:(!((zjU (mdH R) 3 oo==0)==zcT (mdH R) 3 oo k))=true:=w
    rw [hchk,hfi,beq_self_eq_true] at w;cases w
   refine VSt.go za false [] 200 rfl AllP.n ?_
   refine zb 205 rfl (fun w=>?_) (fun w=>?_)
   ·have w:zcT (mdH R) 3 oo k=true:=w
    refine VSt.go za false [] 200 rfl AllP.n ?_
    refine VSt.cond rfl (fun w2=>?_) (fun _=>?_)
    ·have w2:(!(zjU (mdH R) 3 oo==0))=true:=w2
     rw [hchk,←hfi,w] at w2;cases w2
    refine VSt.go za false [210] 200 rfl AllP.n ?_
    refine z02 (Vw.kp [7,9,11,17,26] [(1,1)] rfl) ?_
    exact tail trivial
   ·refine VSt.go za false [210] 200 rfl AllP.n ?_
    refine z02 (Vw.kp [7,9,11,17,26] [(1,1)] rfl) ?_
    exact tail trivial
  case hb4 =>
   intro hx tail
   refine VSt.go za false [] 200 rfl AllP.n ?_
   refine zb 197 rfl (fun w=>?_) (fun w=>?_)
   ·exact absurd (nlt (n:=1000) w) (by omega)
   refine VSt.go za false [] 200 rfl AllP.n ?_
   refine zb 205 rfl (fun w=>?_) (fun w=>?_)
   ·have w:zcT (mdH R) 3 oo k=true:=w
    refine VSt.go za false [] 200 rfl AllP.n ?_
    refine VSt.cond rfl (fun w2=>?_) (fun _=>?_)
    ·have w2:(!(zjU (mdH R) 3 oo==0))=true:=w2
     rw [hchk,ziX w] at w2;cases w2
    refine VSt.go za false [210] 200 rfl AllP.n ?_
    refine z02 (Vw.kp [7,9,11,17,26] [(1,1)] rfl) ?_
    exact tail trivial
   ·refine VSt.go za false [210] 200 rfl AllP.n ?_
    refine z02 (Vw.kp [7,9,11,17,26] [(1,1)] rfl) ?_
    exact tail trivial
  rintro -
  refine z0G (ti:=26) (if k<1000 then (zW (mdH R) 3).length else 0) [7,9,11,17] (fun _=>[]) (fun _=>[(1,.arr (zW (mdH R) 3).length 1 (tiF (mdH R) k 0) 3)]) (fun _=>True) rfl rfl z0X (LImp.refl _) trivial (fun m hm _=>?_)
  refine VSt.go za false [] 200 rfl AllP.n ?_
  by_cases hm2:m<(zW (mdH R) 3).length
  ·refine zb 214 rfl (fun w=>?_) (fun w=>?_)
   rotate_left
   ·exact absurd hm2 (by have:=nge w;omega)
   refine VSt.go za false [] 200 rfl AllP.n ?_
   refine VSt.cond rfl (fun w=>?_) (fun w=>?_)
   ·have hx:=nlt (n:=1000) w
    have hkl:=hnf hx
    rw [if_pos hx] at hm ⊢
    have hy:pW (zB (zW (mdH R) 3) m)∈zeY (mdH R) 3:=by
     have h4:zB (zW (mdH R) 3) m∈zW (mdH R) 3:=z09 hm2
     have h5:zW (mdH R) 3=zaj (zeY (mdH R) 3):=if_pos eo
     rw [h5] at h4 ⊢
     obtain ⟨y,y1,y2⟩:=List.mem_map.1 h4
     rw [←y2];exact y1
    obtain ⟨t1,t2⟩:=zoM hM hpos hy
    rw [←hkl] at t1 t2
    have t3:tiV (mdH R) k m=tiN (mdH R) 3 k (pW (zB (zW (mdH R) 3) m)):=rfl
    rw [←t3] at t1 t2
    have hsu:((zcS (mdH R) 3).any fun y=>eqW y (zB (zW (mdH R) 3) m))=(Int.ofNat (tiV (mdH R) k m)==Int.ofNat k):=by
     rw [Bool.eq_iff_iff,zjB,beq_iff_eq]
     have h5:zcS (mdH R) 3=zaj (zer (mdH R) 3):=if_pos eo
     rw [h5]
     have h6:zB (zW (mdH R) 3) m∈zaj (zer (mdH R) 3) ↔ pW (zB (zW (mdH R) 3) m)∈zer (mdH R) 3:=by
      constructor
      ·intro h
       obtain ⟨y,y1,y2⟩:=List.mem_map.1 h
       rw [←y2];exact y1
      ·intro h
       exact List.mem_map.2 ⟨_,h,rfl⟩
     rw [h6,←t2]
     simp only [yl];omega
    refine VSt.go za false [224] 200 rfl (AllP.c ‹_› (AllP.c rfl (AllP.c (by omega) (AllP.c rfl AllP.n)))) ?_
    refine z0f 223 (nv (tiV (mdH R) k m)) rfl (z2y tiY) ?_
    refine VSt.go za false [] 200 rfl AllP.n ?_
    refine z05 225 rfl (fun w2=>?_) (fun w2=>?_)
    ·exact absurd (eq_of_beq (show (Int.ofNat (tiV (mdH R) k m)==0)=true from w2)) (by simp only [yl];omega)
    refine VSt.go za false [230] 200 rfl (AllP.c ‹_› (AllP.c rfl (AllP.c (by omega) (AllP.c rfl AllP.n)))) ?_
    refine z0f 229 (nv (tiV (mdH R) k m)) rfl (z2y tiY) ?_
    refine VSt.go za false [] 200 rfl (AllP.c ‹_› (AllP.c rfl AllP.n)) ?_
    refine z2U rfl rfl rfl rfl rfl rfl rfl rfl ((z4E (l:=zcS (mdH R) 3) (x:=zB (zW (mdH R) 3) m) l1)) ?_
    rw [hsu]
    refine VSt.go za false [] 200 rfl AllP.n ?_
    refine VSt.cond rfl (fun w3=>?_) (fun _=>?_)
    ·have w3:(!((Int.ofNat (tiV (mdH R) k m)==Int.ofNat k)==(Int.ofNat (tiV (mdH R) k m)==Int.ofNat k)))=true:=w3
     rw [beq_self_eq_true] at w3;cases w3
    refine VSt.go za false [] 200 rfl (AllP.c (by unfold inR;(try simp only [yl]);omega) AllP.n) ?_
    exact ⟨hm2,by refine z0F (ps:=[(1,1)]) ⟨rfl,rfl,(by repeat (first | exact zw | refine zo rfl rfl rfl ?_)),_,rfl,((LImp.refl _))⟩,trivial⟩
   ·refine VSt.go za false [] 200 rfl AllP.n ?_
    refine VSt.pc rfl rfl rfl rfl rfl rfl rfl rfl ((zfC rfl)) ?_
    refine VSt.go za false [] 200 rfl AllP.n ?_
    exact EndsP.mk rfl rfl rfl rfl
  ·refine zb 214 rfl (fun w=>?_) (fun w=>?_)
   ·exact absurd (nlt w) hm2
   refine VSt.go za false [] 200 rfl AllP.n ?_
   refine VSt.pc rfl rfl rfl rfl rfl rfl rfl rfl ((zfC rfl)) ?_
   refine VSt.go za false [] 200 rfl AllP.n ?_
   exact EndsP.mk rfl rfl rfl rfl
end
section
noncomputable abbrev sE0:Env:=sE (.nil,true)
theorem z6v:∀ l:List PV,PImps l l
 | []=>trivial
 | a::l=>⟨PImp.refl a,z6v l⟩
theorem z9e {n:Nat} {q:List PV} (h:Sh sE0 (n+1) 3 q):∃ x,q=[.int .i64 x]∧inR x:=by
 obtain ⟨x,h,h2,h3⟩:=Sh.int (k:=.i64) (by kernel_rfl) h
 have h2 : -9223372036854775808≤x:=h2
 have h3:x≤9223372036854775807:=h3
 exact ⟨x,h,h2,by omega⟩
theorem Sh.array {E:Env} {n:Nat} {t:TypeId} {qs:List PV} {sz w m:Nat} {e:TypeId} (hi:(E.ti.get t).map (fun i=>(i.size,i.desc))=some (sz,.array m e)) (he:(E.ti.get e).map (·.size)=some w) (h:Sh E (n+1) t qs):qs.length=sz∧∀ k,k<m→Sh E n e ((qs.drop (k*w)).take w):=by
 unfold Sh at h
 cases hg:E.ti.get t with
 | none=>rw [hg] at hi;cases hi
 | some i =>
  rw [hg] at hi h
  have hi:(i.size,i.desc)=(sz,.array m e):=Option.some.inj hi
  simp only [Prod.mk.injEq] at hi
  obtain ⟨h1,h2⟩:=hi
  simp only [h2] at h
  obtain ⟨h3,g,h4,h5⟩:=h
  rw [h4] at he
  have he:g.size=w:=Option.some.inj he
  subst he
  exact ⟨h3.trans h1,h5⟩
theorem zjz {n:Nat} {q:List PV} (h:Sh sE0 (n+2) 66 q):∃ x y z,q=[.int .i64 x,.int .i64 y,.int .i64 z]:=by
 obtain ⟨h1,h2⟩:=Sh.array (sz:=3) (w:=1) (m:=3) (e:=3) (by kernel_rfl) (by kernel_rfl) h
 match q,h1 with
 | [a,b,c],_ =>
  obtain ⟨x,h3,_⟩:=z9e (h2 0 (by decide))
  obtain ⟨y,h4,_⟩:=z9e (h2 1 (by decide))
  obtain ⟨z,h5,_⟩:=z9e (h2 2 (by decide))
  have h3:[a]=[.int .i64 x]:=h3
  have h4:[b]=[.int .i64 y]:=h4
  have h5:[c]=[.int .i64 z]:=h5
  cases h3;cases h4;cases h5
  exact ⟨x,y,z,rfl⟩
theorem Shs.two {E:Env} {n:Nat} {a b:TypeId}:∀ {qs:List (List PV)},Shs E n [a,b] qs→∃ q1 q2,qs=[q1,q2]∧Sh E n a q1∧Sh E n b q2
 | [],h=>h.elim
 | [_],h=>h.2.elim
 | [q1,q2],h=>⟨q1,q2,rfl,h.1,h.2.1⟩
 | _::_::_::_,h=>h.2.2.elim
theorem PImps.one {q:List PV} {p0:PV}:PImps q [p0]→∃ p,q=[p]∧PImp p p0:=match q with
 | []=>fun h=>h.elim
 | [p]=>fun h=>⟨p,rfl,h.1⟩
 | _::_::_=>fun h=>h.2.elim
theorem PImps.two {q:List PV} {p0 p1:PV}:PImps q [p0,p1]→∃ a b,q=[a,b]∧PImp a p0∧PImp b p1:=match q with
 | []=>fun h=>h.elim
 | [p]=>fun h=>h.2.elim
 | [a,b]=>fun h=>⟨a,b,rfl,h.1,h.2.1⟩
 | _::_::_::_=>fun h=>h.2.2.elim
end
section
open Go.ChangeShapes Go.WideShapes Go.RowKit
theorem zll {H:Type} (d:DataW H):1≤Rows.uptoBulk d:=by
 cases d with
 | lit l=>cases l <;> simp [Rows.uptoBulk]
 | nil=>simp [Rows.uptoBulk]
 | ptr d=>simp [Rows.uptoBulk]
 | slice elems spare=>simp [Rows.uptoBulk]
 | agg parts=>simp [Rows.uptoBulk]
 | iface t d=>simp [Rows.uptoBulk]
 | map entries=>simp [Rows.uptoBulk]
 | held h=>simp [Rows.uptoBulk]
theorem zcG {H:Type} {d:DataW H} {l:List (DataW H)} (h:d∈l):Rows.uptoBulk d≤Rows.uptoBulkAll l:=by
 induction l with
 | nil=>cases h
 | cons x r ih =>
  simp only [Rows.uptoBulkAll]
  cases List.mem_cons.1 h with
  | inl e=>subst e;omega
  | inr e=>have:=ih e;omega
theorem zlm {H:Type} (l:List (DataW H)):l.length≤Rows.uptoBulkAll l:=by
 induction l with
 | nil=>simp [Rows.uptoBulkAll]
 | cons x r ih=>have:=zll x;simp only [Rows.uptoBulkAll,List.length_cons];omega
theorem zgr {H:Type} {ds:List (DataW H)} (h:Rows.uptoSmall H ds=true) (parts els sp:List (DataW H)) (hp:DataW.agg parts∈ds) (hm:DataW.slice els sp∈parts):els.length≤1048576:=by
 have h1:Rows.uptoBulkAll ds≤1048576:=of_decide_eq_true h
 have h2:=zcG hp
 have h3:=zcG hm
 have h4:Rows.uptoBulk (DataW.slice els sp)=Rows.uptoBulkAll els+Rows.uptoBulkAll sp+1:=by simp only [Rows.uptoBulk]
 have h5:Rows.uptoBulk (DataW.agg parts)=Rows.uptoBulkAll parts+1:=by simp only [Rows.uptoBulk]
 have h6:=zlm els
 omega
theorem z9d {n:Nat} {q:List PV} (h:Sh sE0 (n+2) 37 q):∃ (b:Bool) (l:List Int) (f:Nat→List PV),q=[.lst 3 b l.length f]∧PImp (.lst 3 b l.length f) (z1V b l)∧l.length<9223372036854775808:=by
 obtain ⟨nb,m,f,rfl,h1,h2,h3⟩:=Sh.slice (e:=3) (by kernel_rfl) h
 obtain ⟨l,rfl,h4⟩:=zaH (0:Int) (P:=fun k x=>f k=[.int .i64 x]) fun k hk=>let ⟨x,h,_⟩:=Sh.int (k:=.i64) (by kernel_rfl) (h3 k hk);⟨x,h⟩
 exact ⟨nb,l,f,rfl,PImp.lst fun k hk=>by rw [h4 k hk];exact ⟨PImp.refl _,trivial⟩,h2⟩
theorem zlu {n:Nat} {q:List PV} (h:Sh sE0 (n+2) 52 q):∃ x:Int×Int,q=YtdpipdniklognaaGreat.e2 x:=by
 obtain ⟨h1,h2⟩:=Sh.array (sz:=2) (w:=1) (m:=2) (e:=3) (by kernel_rfl) (by kernel_rfl) h
 match q,h1 with
 | [a,b],_ =>
  obtain ⟨x,h3,_⟩:=z9e (h2 0 (by decide))
  obtain ⟨y,h4,_⟩:=z9e (h2 1 (by decide))
  have h3:[a]=[.int .i64 x]:=h3
  have h4:[b]=[.int .i64 y]:=h4
  cases h3;cases h4
  exact ⟨(x,y),rfl⟩
theorem zjA {n:Nat} {q:List PV} (h:Sh sE0 (n+3) 49 q):∃ (b:Bool) (l:List (Int×Int)),PImps q [.lst 52 b l.length (fun k=>YtdpipdniklognaaGreat.e2 (l.getD k (0,0)))]∧l.length<9223372036854775808:=by
 obtain ⟨nb,m,f,rfl,h1,h2,h3⟩:=Sh.slice (e:=52) (by kernel_rfl) h
 obtain ⟨l,rfl,h4⟩:=zaH ((0,0):Int×Int) (P:=fun k x=>f k=YtdpipdniklognaaGreat.e2 x) fun k hk=>zlu (h3 k hk)
 exact ⟨nb,l,⟨PImp.lst fun k hk=>by rw [h4 k hk];exact z6v _,trivial⟩,h2⟩
theorem zls {n:Nat} {q:List PV} (h:Sh sE0 (n+2) 66 q):∃ x:Int×Int×Int,q=YtdpipdniklognaaGreat.e3 x:=by
 obtain ⟨x,y,z,e⟩:=zjz h
 exact ⟨(x,y,z),e⟩
theorem zjy {n:Nat} {q:List PV} (h:Sh sE0 (n+3) 48 q):∃ (b:Bool) (l:List (Int×Int×Int)),PImps q [.lst 66 b l.length (fun k=>YtdpipdniklognaaGreat.e3 (l.getD k (0,0,0)))]∧l.length<9223372036854775808:=by
 obtain ⟨nb,m,f,rfl,h1,h2,h3⟩:=Sh.slice (e:=66) (by kernel_rfl) h
 obtain ⟨l,rfl,h4⟩:=zaH ((0,0,0):Int×Int×Int) (P:=fun k x=>f k=YtdpipdniklognaaGreat.e3 x) fun k hk=>zls (h3 k hk)
 exact ⟨nb,l,⟨PImp.lst fun k hk=>by rw [h4 k hk];exact z6v _,trivial⟩,h2⟩
theorem zoc {n:Nat} {q:List PV} (h:Sh sE0 (n+4) 51 q):∃ R:Raw,PImps q (zmb R)∧R.sh.length<9223372036854775808∧R.wo.length<9223372036854775808∧R.sw.length<9223372036854775808∧∃ nb f,q[3]? = some (.lst 3 nb R.ids.length f):=by
 obtain ⟨h1,h2⟩:=Sh.struct (sz:=4) (l:=[(48,0),(49,1),(37,2),(37,3)]) (by kernel_rfl) h
 match q,h1 with
 | [a,b,c,d],_ =>
  obtain ⟨b0,l0,k0,m0⟩:=zjy (h2 (48,0) (by simp) 1 (by kernel_rfl))
  obtain ⟨b1,l1,k1,m1⟩:=zjA (h2 (49,1) (by simp) 1 (by kernel_rfl))
  obtain ⟨b2,l2,f2,k2,p2,m2⟩:=z9d (h2 (37,2) (by simp) 1 (by kernel_rfl))
  obtain ⟨b3,l3,f3,k3,p3,m3⟩:=z9d (h2 (37,3) (by simp) 1 (by kernel_rfl))
  have k0:PImps [a] _:=k0
  have k1:PImps [b] _:=k1
  have k2:[c]=_:=k2
  have k3:[d]=_:=k3
  cases k2;cases k3
  exact ⟨⟨l0,b0,l1,b1,l2,b2,l3,b3⟩,⟨k0.1,k1.1,p2,p3,trivial⟩,m0,m1,m2,b3,f3,rfl⟩
theorem zhg:Tryz.checked.prog.underlying 37=some (.slice 3):=by kernel_rfl
theorem zr1:ownKnob Tryz.checked.prog.godebug=none:=by kernel_rfl
theorem zkI (r:Tr (List Value×TypeId)) (qs:List (List PV)) (h:Shs sE0 9 Tryz.f6.params.toList qs) (hs:zcQ Tryz.checked.prog sE0 1048576 Tryz.f6.params.toList qs):VP (sE (r,true)) 6 (z7l sE0 Tryz.f6.params.toList qs) (.p (.bool true)):=by
 have e:Tryz.f6.params.toList=[51,37]:=rfl
 rw [e] at h hs ⊢
 obtain ⟨q1,q2,rfl,g1,g2⟩:=Shs.two h
 obtain ⟨R,h1,n1,n2,n3,nb,f,h4⟩:=zoc (n:=5) g1
 obtain ⟨b2,o,f3,rfl,h3,ho⟩:=z9d (n:=7) g2
 have hid:R.ids.length≤1048576:=hs 0 3 51 3 3 _ _ nb R.ids.length f q1 rfl Tryz.underlying51 (by kernel_rfl) rfl rfl zhg (by kernel_rfl) h4
 have e2:z7l sE0 [51,37] [q1,[.lst 3 b2 o.length f3]]=[.agg (q1.map .p),.p (.lst 3 b2 o.length f3)]:=by
  show [zcJ _ _ _,zcJ _ _ _]=_
  unfold zcJ
  rw [show zoA sE0 51=true by kernel_rfl,show zoA sE0 37=false by kernel_rfl];rfl
 rw [e2]
 exact VP.imp (zdC (b:=b2) (o:=o) ⟨n1,n2,n3,by omega⟩ ho) ⟨zjO h1,PImp.toA h3,trivial⟩
theorem zg6 (os:Os) (started:os.Started) (H:Type) (enc:TypeId×Value→H) (F:Stop.Interp) :
  ReturnsInHanded {} Tryz.checked os 6 .any ((Rows.OpenSpec.upto Rows.leafNthSpec).pre6 enc Tryz.checked.prog Tryz.f6 [] false) (((Rows.OpenSpec.upto Rows.leafNthSpec).at F).post enc Tryz.checked.prog Tryz.f6 false Rows.leafNthUptoRow.fresh Rows.leafNthUptoRow.handsOn Rows.leafNthUptoRow.again):=by
 refine zc7 (E:=sE0) (m:=9) (B:=1048576) (s:=Rows.leafNthSpec) (k:=Rows.uptoSmall) (tb:=4) zr1 started (by kernel_rfl) (by kernel_rfl)
  (OpenSpec.witness (enc:=enc) (C:=Tryz.checked) (s:=Rows.OpenSpec.upto Rows.leafNthSpec) (k:=Rows.uptoSmall) rfl false ⟨#[],#[.agg #[.slice none 0 0,.slice none 0 0,.slice none 0 0,.slice none 0 0],.slice none 0 0],[]⟩ 20 (by kernel_rfl) (by kernel_rfl) (by kernel_rfl)
   (x:=([.agg [.nil,.nil,.nil,.nil],.nil],[],[])) (by kernel_rfl) rfl (by kernel_rfl))
  (of_decide_eq_true (by kernel_rfl)) (fun r=>zqw (r,true)) (by kernel_rfl) (by kernel_rfl) (by kernel_rfl) (by kernel_rfl) (by kernel_rfl) rfl ?_ (fun ds h=>zgr h) zkI
 intro ds hds
 have:ds.length=2:=hds
 match ds,this with
 | [d1,d2],_=>exact ⟨rfl,rfl,rfl⟩
theorem nth_holds:Rows.LeafNthUptoSaid :=
 OpenClaim.holds_of_cond 6 Tryz.f6 rfl rfl rfl rfl rfl rfl rfl ⟨rfl,rfl,rfl,rfl,rfl⟩ rfl rfl rfl rfl rfl (by kernel_rfl) (by kernel_rfl) (by kernel_rfl)
  (of_decide_eq_true (by kernel_rfl)) (by unfold Func.isWrapper;first | (rw [if_pos (by decide +kernel)];kernel_rfl) | (rw [if_neg (by decide +kernel)];exact ⟨rfl,rfl⟩))
  (fun os started H enc _ F=>zg6 os started H enc F)
end
end Go.Proofs.YtdpipdniklognaaGreat
