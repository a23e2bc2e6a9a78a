/- The program's LeafLess returns true for all numbers that describe a book, all that is not known any more, and all numbers of an order, without an exception and without changing its arguments: a part of the proof. -/
import Derived.Test.YtdpipdniklognaaGreatVx
import Derived.Test.YtdpipdniklognaaGreatVe
import Derived.Test.YtdpipdniklognaaGreatRows
import Derived.Test.YtdpipdniklognaaGreatVw
import Derived.JoinedCond
set_option linter.all false
/- Walks of the reference: Mod, pick; the book that numbers describe, its order. -/
set_option maxRecDepth 100000
namespace Go.Proofs.YtdpipdniklognaaGreat
section
variable {r:Rm}
theorem z3V {x m:Int} (h0:0<m) (h1:m<4611686018427387904):VP (sE r) 36 [iv x,iv m] (iv (zS x m)):=by
 have hm:m≠0:=by omega
 have h2:=Int.lt_tmod_of_pos x h0
 have h3:=Int.tmod_lt_of_pos x h0
 have h4:inR (x.tmod m+m):=by unfold inR;omega
 refine VP.of (fn:=Tryz.f36) za (zK rfl) (by kernel_rfl) rfl rfl rfl ?_
 refine VSt.go za false [] 200 rfl (AllP.c ‹_› (AllP.c ‹_› (AllP.c ‹_› AllP.n))) ?_
 exact EndsP.mk rfl rfl rfl rfl
theorem zn1 {b:Bool} {l:List Int} {i:Nat} (hl:l.length<4611686018427387904):VP (sE r) 96 [.p (z4f b l),nv i] (iv (z5a l i)):=by
 refine VP.of (fn:=Tryz.f96) za (zK rfl) (by kernel_rfl) rfl rfl rfl ?_
 refine VSt.go za false [] 200 rfl AllP.n ?_
 refine VSt.cond rfl (fun h=>?_) (fun h=>?_)
 ·have h:(Int.ofNat l.length==0)=true:=h
  have h:=eq_of_beq h
  refine VSt.go za false [] 200 rfl AllP.n ?_
  refine EndsP.mk rfl rfl rfl ?_
  rw [show z5a l i=0 from if_pos (by simp only [ym] at h;omega)];rfl
 ·have h:(Int.ofNat l.length==0)=false:=h
  have h0:l.length≠0:=fun g=>by rw [g] at h;cases h
  have hr:=z0x (x:=Int.ofNat i) (m:=Int.ofNat l.length) (by simp only [ym];omega)
  have hk:(zS (Int.ofNat i) (Int.ofNat l.length)).toNat<l.length:=by simp only [ym] at hr ⊢;omega
  refine VSt.go za false [] 200 rfl AllP.n ?_
  refine VSt.pc rfl rfl rfl rfl rfl rfl rfl rfl ((z3V (x:=Int.ofNat i) (m:=Int.ofNat l.length) (by simp only [ym];omega) (by simp only [ym];omega))) ?_
  refine VSt.go za false [13] 200 rfl AllP.n ?_
  refine z07 12 (nv (zS (Int.ofNat i) (Int.ofNat l.length)).toNat) rfl (z1X (Int.toNat_of_nonneg hr.1).symm) ?_
  refine VSt.go za false [] 200 rfl (AllP.c ‹_› (AllP.c rfl AllP.n)) ?_
  refine EndsP.mk rfl rfl rfl ?_
  rw [show z5a l i=l.getD (zS (Int.ofNat i) (Int.ofNat l.length)).toNat 0 from if_neg h0];rfl
def e3 (x:Int×Int×Int):List PV:=[.int .i64 x.1,.int .i64 x.2.1,.int .i64 x.2.2]
def e2 (x:Int×Int):List PV:=[.int .i64 x.1,.int .i64 x.2]
def zm7 (R:Raw):List PV:=[.lst 66 R.shB R.sh.length (fun k=>e3 (shN R k)),.lst 52 R.woB R.wo.length (fun k=>e2 (woN R k)),z4f R.swB R.sw,z4f R.idB R.ids]
structure SzR (R:Raw):Prop where
 sh:R.sh.length<9223372036854775808
 wo:R.wo.length<9223372036854775808
 sw:R.sw.length<9223372036854775808
 ids:R.ids.length<4611686018427387904
def z9a (R:Raw) (k:Nat):List Sht:=(List.range k).map (z5w R)
theorem z5v (R:Raw) (k:Nat):(z9a R k).length=k:=by unfold z9a;rw [List.length_map,List.length_range]
theorem zbv (R:Raw) (k:Nat):z9a R (k+1)=z9a R k++[z5w R k]:=by unfold z9a;rw [List.range_succ,List.map_append];rfl
def bkF (R:Raw) (k:Nat):VK:=[(1,.p (.fp (zm7 R) 0)),(2,.ref 1 0),(3,.p (.lst 0 true 0 fun _=>[])),(4,nv (nM R)),(5,.p (z4f (zF R).isEmpty (zF R))),(8,.acc true 0 6 (z9a R k).length),(9,nv k),(10,.ref 2 0),(11,.ref 3 0)]
def bkL (R:Raw) (k:Nat) (a c:Int) (m u:Nat):VS:=[(3,.cells [iv ((zF R).getD k 0),iv 3,iv a,iv c,iv (Int.ofNat m),iv (Int.ofNat u)] 74),(2,.cells [iv (shN R k).1,iv (shN R k).2.1,iv (shN R k).2.2] 66),(0,.acc (z9a R k).length 6 (fS (z9a R k)) 74),(1,.cells [.p (.lst 0 true 0 fun _=>[]),.p (.lst 0 true 0 fun _=>[])] 25)]
def hpF (R:Raw) (j:Nat):VK:=[(1,.p (.fp (zm7 R) 0)),(2,.ref 1 0),(4,nv (nM R)),(5,.p (z4f (zF R).isEmpty (zF R))),(8,.p (.lst 74 (true&&(z9a R (nM R)).length.beq 0) (z9a R (nM R)).length (fS (z9a R (nM R))))),(14,.ref 2 0),(15,nv (j+1))]
def hpL (R:Raw) (j:Nat):VS:=[(1,.cells [.p (.lst 0 true 0 fun _=>[]),.p (.lst 0 true 0 fun _=>[])] 25),(2,.cells [.acc true 3 6 (zU R j).length,.acc true 4 2 (zW R j).length] 25),(3,.acc (zU R j).length 6 (fS (zU R j)) 74),(4,.acc (zW R j).length 2 (fW (zW R j)) 58)]
def hpM (R:Raw) (i j:Nat):VS:=[(1,.cells [.p (.lst 0 true 0 fun _=>[]),.p (.lst 0 true 0 fun _=>[])] 25),(2,.cells [.acc true 3 6 (zU R i).length,.acc true 4 2 (zW R j).length] 25),(3,.acc (zU R i).length 6 (fS (zU R i)) 74),(4,.acc (zW R j).length 2 (fW (zW R j)) 58)]
theorem zlw {x:Int} {k:Nat} (hk:k<9223372036854775808):zot x (Int.ofNat k)=Int.ofNat (zZ x k):=by
 have h1:(BitVec.ofInt 64 x &&& BitVec.ofInt 64 (Int.ofNat k)).toNat=zZ x k:=by
  rw [z0W,BitVec.toNat_and,z1o (by omega)];rfl
 have h2:=z5d x k
 show IntKind.i64.wrap (Int.ofNat (BitVec.ofInt 64 x &&& BitVec.ofInt 64 (Int.ofNat k)).toNat)=_
 rw [z3D _ (by rw [h1];omega),h1]
theorem zo4 {E:Env} {t:TypeId} {x:Int} {k:Nat} (hk:k<9223372036854775808):y5 E .and t (.int .i64 x) (.int .i64 (Int.ofNat k))=some (.int .i64 (Int.ofNat (zZ x k))):=by
 rw [←zlw hk];rfl
set_option maxHeartbeats 8000000 in
theorem zoe {R:Raw} (hR:SzR R):VP (sE r) 31 [.agg ((zm7 R).map .p)] (.tup [.agg [.p (z0E (zU R 30).isEmpty (zU R 30)),.p (z1F (zW R 30).isEmpty (zW R 30))],.p (z4f (zF R).isEmpty (zF R))]):=by
 have hs:=hR.sh
 have hw:=hR.wo
 have hsw:=hR.sw
 have hid:=hR.ids
 have hn6:=znj R
 refine VP.of (fn:=Tryz.f31) za (zK rfl) (by kernel_rfl) rfl rfl rfl ?_
 refine VSt.go za false [17] 200 rfl AllP.n ?_
 refine zb (zk 0 (zm7 R) rfl rfl) ?_
 refine VSt.go za false [] 200 rfl AllP.n ?_
 refine VSt.putC 4 (nv (nM R)) rfl (z1X (by unfold nM;simp only [ym];omega)) ?_
 refine zm (z3E 2 1 (fL []) 3 rfl) ?_
 refine z1V (ti:=6) (nM R) [1,2,3,4] (fun k=>[(5,.acc true 2 1 (mdO R k).length)]) (fun k=>[(2,.acc (mdO R k).length 1 (fL (mdO R k)) 3),(1,.cells [.p (.lst 0 true 0 fun _=>[]),.p (.lst 0 true 0 fun _=>[])] 25)]) (fun _=>True) rfl rfl (z3m rfl z1b z1P) (LImp.refl _) trivial (fun k hk _=>?_)
 have hol:=zax R k
 refine VSt.go za false [] 200 rfl AllP.n ?_
 refine VSt.cond rfl (fun g=>?_) (fun g=>?_)
 ·have g:=nlt g
  have hmr:=z0x (x:=z5a R.ids k) (m:=30) (by decide)
  have hin1:inR (1+zS (z5a R.ids k) 30):=by unfold inR;omega
  have hnx:∀ x,1≤x→x≤30→inR (1+zS x 30)∧1≤z5o x∧z5o x≤30:=fun x _ _=>by
   have:=z0x (x:=x) (m:=30) (by decide)
   unfold inR z5o;omega
  have hnew:=ziR (o:=mdO R k) (x:=1+zS (z5a R.ids k) 30) (by omega) (by omega) (by omega)
  refine VSt.go za false [] 200 rfl AllP.n ?_
  refine VSt.pc rfl rfl rfl rfl rfl rfl rfl rfl ((zn1 (b:=R.idB) (l:=R.ids) (i:=k) hid)) ?_
  refine VSt.go za false [] 200 rfl AllP.n ?_
  refine VSt.pc rfl rfl rfl rfl rfl rfl rfl rfl ((z3V (x:=z5a R.ids k) (m:=30) (by decide) (by decide))) ?_
  refine VSt.go za false [] 200 rfl (AllP.c ‹_› AllP.n) ?_
  refine VSt.loop (α :=Nat×Int) (fun x F L=>1≤x.2∧x.2≤30∧zaN (mdO R k) x.1 x.2=zaN (mdO R k) 30 (1+zS (z5a R.ids k) 30)∧F=[(1,.p (.fp (zm7 R) 0)),(2,.ref 1 0),(3,.p (.lst 0 true 0 fun _=>[])),(4,nv (nM R)),(5,.acc true 2 1 (mdO R k).length),(6,nv k),(7,iv x.2)]∧L=[(2,.acc (mdO R k).length 1 (fL (mdO R k)) 3),(1,.cells [.p (.lst 0 true 0 fun _=>[]),.p (.lst 0 true 0 fun _=>[])] 25)]) (fun x=>x.1) (30,1+zS (z5a R.ids k) 30) (Vw.kp [1,2,3,4,5,6,7] [(2,2),(1,1)] rfl) ⟨by show 1≤1+zS _ _;omega,by show 1+zS _ _≤30;omega,rfl,rfl,rfl⟩ ?_
  rintro ⟨f,x⟩ F L ⟨h1,h2,h3,rfl,rfl⟩
  have h1:1≤x:=h1
  have h2:x≤30:=h2
  have h3:zaN (mdO R k) f x=zaN (mdO R k) 30 (1+zS (z5a R.ids k) 30):=h3
  have hn:=hnx x h1 h2
  have hn1:=hn.1
  refine VSt.go za false [] 200 rfl AllP.n ?_
  refine z6e (F0:=[(32,.p (.lst 3 (Nat.beq (mdO R k).length 0) (mdO R k).length (fL (mdO R k)))),(33,iv x)]) (zlx (i:=2) rfl (fun q hq=>by
    rcases List.mem_cons.1 hq with rfl | hq
    ·exact ⟨_,rfl,.inr ⟨rfl,rfl⟩⟩
    rcases List.mem_cons.1 hq with rfl | hq
    ·exact ⟨_,rfl,.inl ⟨rfl,rfl⟩⟩
    cases hq)) rfl rfl rfl rfl rfl rfl rfl (zhF (b:=Nat.beq (mdO R k).length 0) (l:=mdO R k) (n:=x) (by omega)) rfl ?_
  refine VSt.go za false [] 200 rfl AllP.n ?_
  refine VSt.cond rfl (fun q=>?_) (fun q=>?_)
  ·have q:(mdO R k).contains x=true:=q
   cases f with
   | zero =>
    have h3:x=_:=h3
    rw [←h3] at hnew
    exact absurd (List.contains_iff_mem.1 q) hnew
   | succ f =>
    have h4:zaN (mdO R k) (f+1) x=zaN (mdO R k) f (z5o x):=by
     show (bif (mdO R k).contains x then zaN (mdO R k) f (z5o x) else x)=_
     rw [q];rfl
    refine VSt.go za false [] 200 rfl AllP.n ?_
    refine VSt.pc rfl rfl rfl rfl rfl rfl rfl rfl ((z3V (x:=x) (m:=30) (by decide) (by decide))) ?_
    refine VSt.go za false [] 200 rfl (AllP.c ‹_› AllP.n) ?_
    exact ⟨(f,z5o x),_,_,(Vw.kp [1,2,3,4,5,6,7] [(2,2),(1,1)] rfl),⟨hn.2.1,hn.2.2,h4.symm.trans h3,rfl,rfl⟩,Nat.lt_succ_self f⟩
  ·have q:(mdO R k).contains x=false:=q
   have h4:zaN (mdO R k) f x=x:=by
    cases f with
    | zero=>rfl
    | succ f =>
     show (bif (mdO R k).contains x then zaN (mdO R k) f (z5o x) else x)=_
     rw [q];rfl
   have e:mdO R (k+1)=mdO R k++[x]:=by
    show mdO R k++[zaN (mdO R k) 30 (1+zS (z5a R.ids k) 30)]=_
    rw [←h3,h4]
   have hN:=congrArg List.length e
   rw [List.length_append,List.length_singleton] at hN
   refine VSt.go za false [] 200 rfl (AllP.c (by omega) (AllP.c (by omega) (AllP.c (fun q hq=>match q,hq with | 0,_=>rfl) (AllP.c rfl (AllP.c rfl (AllP.c rfl (AllP.c (by unfold inR;(try simp only [ym]);omega) AllP.n))))))) ?_
   refine ⟨g,?_,trivial⟩
   exact zP (ps:=[(2,3),(1,1)]) ⟨rfl,rfl,(by repeat (first | exact zw | refine zq rfl rfl rfl ?_ | refine z2a rfl rfl z6i ?_ | refine z2a rfl rfl (AImp.acc hN.symm (fun _=>rfl)) ?_)),_,rfl,⟨rfl,BImp.acc hN.symm (fun q hq=>by rw [e];exact ze1 _ _ q hq),rfl,BImp.refl _,trivial⟩⟩
 have g:k=nM R:=by have:=nge g;omega
 subst g
 have hol:(zF R).length=nM R:=z1J R
 refine VSt.go za false [8] 200 rfl AllP.n ?_
 refine zb (z1H 2 rfl rfl (by (repeat (first | exact AllP.n | refine AllP.c (by first | assumption | rfl | omega | exact yn _ | (show 0<_;omega) | (show 1<_;omega) | (show 2<_;omega) | (show 3<_;omega) | (intro _ _;rfl) | (intro q hq;match q,hq with | 0,_=>rfl) | (unfold inR;(try simp only [ym]);omega)) ?_)))) ?_
 refine z07 5 (.p (z4f (zF R).isEmpty (zF R))) rfl (z02 (zmi rfl)) ?_
 refine VSt.go za false [] 200 rfl AllP.n ?_
 refine zm (z3E 0 6 (fS []) 74 rfl) ?_
 refine z1V (ti:=9) (nM R) [1,2,3,4,5] (fun k=>[(8,.acc true 0 6 (z9a R k).length)]) (fun k=>[(0,.acc (z9a R k).length 6 (fS (z9a R k)) 74),(1,.cells [.p (.lst 0 true 0 fun _=>[]),.p (.lst 0 true 0 fun _=>[])] 25)]) (fun _=>True) rfl rfl (z3m rfl z1b z1P) (LImp.refl _) trivial (fun k hk _=>?_)
 have hsl:=z5v R k
 refine VSt.go za false [] 200 rfl AllP.n ?_
 refine VSt.cond rfl (fun g=>?_) (fun g=>?_)
 ·have g:=nlt g
  have hks:k<R.sh.length:=yu g (Nat.min_le_left _ _)
  have hko:k<(zF R).length:=by omega
  have hm0:=z0x (x:=(shN R k).1) (m:=5) (by decide)
  have hin0:inR (1+zS (shN R k).1 5):=by unfold inR;omega
  refine VSt.go za false [] 200 rfl (AllP.c ‹_› (AllP.c rfl (AllP.c ‹_› (AllP.c rfl (AllP.c (by show 0<_;omega) AllP.n))))) ?_
  refine z2z rfl rfl rfl rfl rfl rfl rfl rfl ((z3V (x:=(shN R k).1) (m:=5) (by decide) (by decide))) ?_
  refine VSt.go za false [] 200 rfl (AllP.c ‹_› (AllP.c (by unfold inR;(try simp only [ym]);omega) AllP.n)) ?_
  refine ways (O:=True) (T:=?T1) (Nat.lt_or_ge (k+1) (nM R)) ?tail1 ?ha1 ?hb1
  case ha1 =>
   intro hx tail
   have hk1:k+1<R.sh.length:=yu hx (Nat.min_le_left _ _)
   have hm1:=z0x (x:=(shN R (k+1)).1) (m:=5) (by decide)
   have hin1:inR (1+zS (shN R (k+1)).1 5):=by unfold inR;omega
   refine VSt.cond rfl (fun q=>?_) (fun q=>absurd hx (by have:=nge (k:=k+1) q;omega))
   refine VSt.go za false [69] 200 rfl (AllP.c (by unfold inR;(try simp only [ym]);omega) AllP.n) ?_
   refine z07 68 (nv (k+1)) rfl (z1X rfl) ?_
   refine VSt.go za false [] 200 rfl (AllP.c ‹_› (AllP.c rfl (AllP.c (by show 0<_;omega) AllP.n))) ?_
   refine VSt.pc rfl rfl rfl rfl rfl rfl rfl rfl ((z3V (x:=(shN R (k+1)).1) (m:=5) (by decide) (by decide))) ?_
   refine VSt.go za false [75] 200 rfl (AllP.c ‹_› AllP.n) ?_
   refine zb (zP (ps:=[(3,3),(2,2),(0,0),(1,1)]) (F0:=bkF R k) (L0:=bkL R k (1+zS (shN R k).1 5) (if k+1<nM R then 1+zS (shN R (k+1)).1 5 else 0) 0 0) ⟨rfl,rfl,(by repeat (first | exact zw | refine zq rfl rfl rfl ?_)),_,rfl,⟨rfl,BImp.cells ⟨AImp.refl _,AImp.refl _,AImp.refl _,z02 (by rw [if_pos hx]),AImp.refl _,AImp.refl _,trivial⟩,rfl,BImp.refl _,rfl,BImp.refl _,rfl,BImp.refl _,trivial⟩⟩) ?_
   exact tail trivial
  case hb1 =>
   intro hx tail
   refine VSt.cond rfl (fun q=>absurd (nlt (k:=k+1) q) (by omega)) (fun q=>?_)
   refine VSt.go za false [75] 200 rfl AllP.n ?_
   refine zb (zP (ps:=[(3,3),(2,2),(0,0),(1,1)]) (F0:=bkF R k) (L0:=bkL R k (1+zS (shN R k).1 5) (if k+1<nM R then 1+zS (shN R (k+1)).1 5 else 0) 0 0) ⟨rfl,rfl,(by repeat (first | exact zw | refine zq rfl rfl rfl ?_)),_,rfl,⟨rfl,BImp.cells ⟨AImp.refl _,AImp.refl _,AImp.refl _,z02 (by rw [if_neg (by omega)]),AImp.refl _,AImp.refl _,trivial⟩,rfl,BImp.refl _,rfl,BImp.refl _,rfl,BImp.refl _,trivial⟩⟩) ?_
   exact tail trivial
  case tail1 =>
   rintro -
   generalize hc1:(if k+1<nM R then 1+zS (shN R (k+1)).1 5 else 0)=c1
   refine VSt.go za false [77] 200 rfl (AllP.c (by show 1<_;omega) AllP.n) ?_
   refine VSt.binA rfl rfl rfl rfl rfl (zo4 (k:=1) (by decide)) ?_
   refine VSt.go za false [] 200 rfl AllP.n ?_
   refine ways (O:=True) (T:=?T2) (Bool.eq_false_or_eq_true (zZ (shN R k).2.1 1==0)) ?tail2 ?ha2 ?hb2
   case ha2 =>
    intro hx tail
    have q0:(!(Int.ofNat (zZ (shN R k).2.1 1)==0))=false:=by rw [z2W,hx];rfl
    refine VSt.cond rfl (fun q=>absurd (q0.symm.trans q) (by decide)) (fun q=>?_)
    refine VSt.go za false [80] 200 rfl AllP.n ?_
    refine zb (zP (ps:=[(3,3),(2,2),(0,0),(1,1)]) (F0:=bkF R k) (L0:=bkL R k (bif zZ (shN R k).2.1 1==0 then 1+zS (shN R k).1 5 else 0) (c1) 0 0) ⟨rfl,rfl,(by repeat (first | exact zw | refine zq rfl rfl rfl ?_)),_,rfl,⟨rfl,BImp.cells ⟨AImp.refl _,AImp.refl _,z02 (by rw [hx];rfl),AImp.refl _,AImp.refl _,AImp.refl _,trivial⟩,rfl,BImp.refl _,rfl,BImp.refl _,rfl,BImp.refl _,trivial⟩⟩) ?_
    exact tail trivial
   case hb2 =>
    intro hx tail
    have q0:(!(Int.ofNat (zZ (shN R k).2.1 1)==0))=true:=by rw [z2W,hx];rfl
    refine VSt.cond rfl (fun q=>?_) (fun q=>absurd (q0.symm.trans q) (by decide))
    refine VSt.go za false [80] 200 rfl AllP.n ?_
    refine zb (zP (ps:=[(3,3),(2,2),(0,0),(1,1)]) (F0:=bkF R k) (L0:=bkL R k (bif zZ (shN R k).2.1 1==0 then 1+zS (shN R k).1 5 else 0) (c1) 0 0) ⟨rfl,rfl,(by repeat (first | exact zw | refine zq rfl rfl rfl ?_)),_,rfl,⟨rfl,BImp.cells ⟨AImp.refl _,AImp.refl _,z02 (by rw [hx];rfl),AImp.refl _,AImp.refl _,AImp.refl _,trivial⟩,rfl,BImp.refl _,rfl,BImp.refl _,rfl,BImp.refl _,trivial⟩⟩) ?_
    exact tail trivial
   case tail2 =>
   rintro -
   generalize ha1:(bif zZ (shN R k).2.1 1==0 then 1+zS (shN R k).1 5 else 0)=a1
   refine VSt.go za false [82] 200 rfl (AllP.c (by show 1<_;omega) AllP.n) ?_
   refine VSt.binA rfl rfl rfl rfl rfl (zo4 (k:=2) (by decide)) ?_
   refine VSt.go za false [] 200 rfl AllP.n ?_
   refine ways (O:=True) (T:=?T3) (Bool.eq_false_or_eq_true (zZ (shN R k).2.1 2==0)) ?tail3 ?ha3 ?hb3
   case ha3 =>
    intro hx tail
    have q0:(!(Int.ofNat (zZ (shN R k).2.1 2)==0))=false:=by rw [z2W,hx];rfl
    refine VSt.cond rfl (fun q=>absurd (q0.symm.trans q) (by decide)) (fun q=>?_)
    refine VSt.go za false [] 200 rfl AllP.n ?_
    refine zm (zP (ps:=[(3,3),(2,2),(0,0),(1,1)]) (F0:=(12,nv 0)::bkF R k) (L0:=bkL R k (a1) (bif zZ (shN R k).2.1 2==0 then c1 else 0) 0 0) ⟨rfl,rfl,(by repeat (first | exact zw | refine zq rfl rfl rfl ?_)),_,rfl,⟨rfl,BImp.cells ⟨AImp.refl _,AImp.refl _,AImp.refl _,z02 (by rw [hx];rfl),AImp.refl _,AImp.refl _,trivial⟩,rfl,BImp.refl _,rfl,BImp.refl _,rfl,BImp.refl _,trivial⟩⟩) ?_
    exact tail trivial
   case hb3 =>
    intro hx tail
    have q0:(!(Int.ofNat (zZ (shN R k).2.1 2)==0))=true:=by rw [z2W,hx];rfl
    refine VSt.cond rfl (fun q=>?_) (fun q=>absurd (q0.symm.trans q) (by decide))
    refine VSt.go za false [] 200 rfl AllP.n ?_
    refine zm (zP (ps:=[(3,3),(2,2),(0,0),(1,1)]) (F0:=(12,nv 0)::bkF R k) (L0:=bkL R k (a1) (bif zZ (shN R k).2.1 2==0 then c1 else 0) 0 0) ⟨rfl,rfl,(by repeat (first | exact zw | refine zq rfl rfl rfl ?_)),_,rfl,⟨rfl,BImp.cells ⟨AImp.refl _,AImp.refl _,AImp.refl _,z02 (by rw [hx];rfl),AImp.refl _,AImp.refl _,trivial⟩,rfl,BImp.refl _,rfl,BImp.refl _,rfl,BImp.refl _,trivial⟩⟩) ?_
    exact tail trivial
   case tail3 =>
   rintro -
   generalize hc2:(bif zZ (shN R k).2.1 2==0 then c1 else 0)=c2
   refine z1V (ti:=12) (nW R) [1,2,3,4,5,8,9,10,11] (fun _=>[]) (fun w=>bkL R k a1 c2 (z6V R k w) 0) (fun _=>True) rfl rfl z1P (LImp.refl _) trivial (fun w hw _=>?_)
   have hw12:nW R≤12:=Nat.min_le_right _ _
   have hwl:nW R≤R.wo.length:=Nat.min_le_left _ _
   have hwk:z6V R k w<9223372036854775808:=yu (z9Z R k w) (yo (Nat.pow_le_pow_right (by decide) (show w≤12 by omega)) (by decide))
   refine VSt.go za false [] 200 rfl AllP.n ?_
   refine ways (O:=True) (T:=?T4) (Nat.lt_or_ge w (nW R)) ?tail4 ?ha4 ?hb4
   case ha4 =>
    intro hx _
    have hx12:w<12:=by omega
    have hxl:w<R.wo.length:=by omega
    have hm7:=z0x (x:=(woN R w).1) (m:=7) (by decide)
    have hm4:=z0x (x:=(woN R w).2) (m:=4) (by decide)
    have hi4:inR (zS (woN R w).1 7+zS (woN R w).2 4):=by unfold inR;omega
    have hsh:1 <<< w<9223372036854775808:=by
     rw [Nat.one_shiftLeft];exact yu (Nat.pow_lt_pow_right (by decide) hx12) (by decide)
    have eK:z6V R k (w+1)=bif zcS R k w then z6V R k w ||| 1 <<< w else z6V R k w:=rfl
    refine zi 90 rfl (fun q=>?_) (fun q=>absurd hxl (by have:=nge q;omega))
    refine VSt.go za false [] 200 rfl AllP.n ?_
    refine VSt.cond rfl (fun q=>?_) (fun q=>absurd hx12 (by have:=nge (n:=12) q;omega))
    refine VSt.go za false [] 200 rfl (AllP.c ‹_› (AllP.c rfl (AllP.c (by show 0<_;omega) AllP.n))) ?_
    refine VSt.pc rfl rfl rfl rfl rfl rfl rfl rfl ((z3V (x:=(woN R w).1) (m:=7) (by decide) (by decide))) ?_
    refine VSt.go za false [] 200 rfl AllP.n ?_
    refine zi 106 rfl (fun b1=>?_) (fun b1=>?_)
    ·have b1:decide (zS (woN R w).1 7≤Int.ofNat k)=true:=b1
     refine VSt.go za false [] 200 rfl (AllP.c ‹_› (AllP.c rfl (AllP.c (yn _) AllP.n))) ?_
     refine VSt.pc rfl rfl rfl rfl rfl rfl rfl rfl ((z3V (x:=(woN R w).2) (m:=4) (by decide) (by decide))) ?_
     refine VSt.go za false [] 200 rfl (AllP.c ‹_› AllP.n) ?_
     refine VSt.cond rfl (fun b2=>?_) (fun b2=>?_)
     ·have b2:decide (Int.ofNat k≤zS (woN R w).1 7+zS (woN R w).2 4)=true:=b2
      rw [show zcS R k w=true by unfold zcS;rw [b1,b2];rfl,cond_true] at eK
      refine VSt.go za false [] 200 rfl (AllP.c (by omega) (AllP.c ‹_› (AllP.c ‹_› (AllP.c ‹_› (AllP.c (by unfold inR;(try simp only [ym]);omega) AllP.n))))) ?_
      refine ⟨hx,?_,trivial⟩
      dsimp only
      rw [eK]
      refine zP (ps:=[(3,3),(2,2),(0,0),(1,1)]) ⟨rfl,rfl,(by repeat (first | exact zw | refine zq rfl rfl rfl ?_)),_,rfl,(⟨rfl,BImp.refl _,rfl,BImp.refl _,rfl,BImp.refl _,rfl,BImp.refl _,trivial⟩)⟩
     ·have b2:decide (Int.ofNat k≤zS (woN R w).1 7+zS (woN R w).2 4)=false:=b2
      rw [show zcS R k w=false by unfold zcS;rw [b1,b2];rfl,cond_false] at eK
      refine VSt.go za false [] 200 rfl (AllP.c (by unfold inR;(try simp only [ym]);omega) AllP.n) ?_
      refine ⟨hx,?_,trivial⟩
      dsimp only
      rw [eK]
      refine zP (ps:=[(3,3),(2,2),(0,0),(1,1)]) ⟨rfl,rfl,(by repeat (first | exact zw | refine zq rfl rfl rfl ?_)),_,rfl,(⟨rfl,BImp.refl _,rfl,BImp.refl _,rfl,BImp.refl _,rfl,BImp.refl _,trivial⟩)⟩
    ·have b1:decide (zS (woN R w).1 7≤Int.ofNat k)=false:=b1
     rw [show zcS R k w=false by unfold zcS;rw [b1];rfl,cond_false] at eK
     refine VSt.go za false [] 200 rfl (AllP.c (by unfold inR;(try simp only [ym]);omega) AllP.n) ?_
     refine ⟨hx,?_,trivial⟩
     dsimp only
     rw [eK]
     refine zP (ps:=[(3,3),(2,2),(0,0),(1,1)]) ⟨rfl,rfl,(by repeat (first | exact zw | refine zq rfl rfl rfl ?_)),_,rfl,(⟨rfl,BImp.refl _,rfl,BImp.refl _,rfl,BImp.refl _,rfl,BImp.refl _,trivial⟩)⟩
   case hb4 =>
    intro hx tail
    have hx2:w=nW R:=by omega
    refine zi 90 rfl (fun q=>?_) (fun q=>?_)
    ·have q:=nlt q
     refine VSt.go za false [] 200 rfl AllP.n ?_
     refine VSt.cond rfl (fun q2=>absurd (nlt (n:=12) q2) (by unfold nW at hx;omega)) (fun q2=>?_)
     refine VSt.go za false [125] 200 rfl AllP.n ?_
     refine zb (zP (ps:=[(3,3),(2,2),(0,0),(1,1)]) (F0:=bkF R k) (L0:=bkL R k a1 c2 (z6V R k (nW R)) 0) ⟨rfl,rfl,(by repeat (first | exact zw | refine zq rfl rfl rfl ?_)),_,rfl,⟨rfl,BImp.cells ⟨AImp.refl _,AImp.refl _,AImp.refl _,AImp.refl _,z02 (by rw [←hx2]),AImp.refl _,trivial⟩,rfl,BImp.refl _,rfl,BImp.refl _,rfl,BImp.refl _,trivial⟩⟩) ?_
     exact tail trivial
    ·refine VSt.go za false [125] 200 rfl AllP.n ?_
     refine zb (zP (ps:=[(3,3),(2,2),(0,0),(1,1)]) (F0:=bkF R k) (L0:=bkL R k a1 c2 (z6V R k (nW R)) 0) ⟨rfl,rfl,(by repeat (first | exact zw | refine zq rfl rfl rfl ?_)),_,rfl,⟨rfl,BImp.cells ⟨AImp.refl _,AImp.refl _,AImp.refl _,AImp.refl _,z02 (by rw [←hx2]),AImp.refl _,trivial⟩,rfl,BImp.refl _,rfl,BImp.refl _,rfl,BImp.refl _,trivial⟩⟩) ?_
     exact tail trivial
   case tail4 =>
   rintro -
   have hwk2:z6V R k (nW R)<9223372036854775808:=yu (z9Z R k _) (yo (Nat.pow_le_pow_right (by decide) hw12) (by decide))
   have hlo:zZ (shN R k).2.2 4095<9223372036854775808:=Nat.lt_of_le_of_lt (z5d _ _) (by decide)
   refine VSt.go za false [127] 200 rfl (AllP.c (yn _) AllP.n) ?_
   refine VSt.binA rfl rfl rfl rfl rfl (zo4 (k:=4095) (by decide)) ?_
   refine VSt.go za false [] 200 rfl (AllP.c ‹_› (AllP.c ‹_› (AllP.c (by omega) (AllP.c (by omega) (AllP.c (fun q hq=>match q,hq with | 0,_=>rfl) (AllP.c rfl (AllP.c rfl (AllP.c rfl (AllP.c (by unfold inR;(try simp only [ym]);omega) AllP.n))))))))) ?_
   have e:=zbv R k
   have es:z5w R k=⟨(zF R).getD k 0,3,a1,c2,Int.ofNat (z6V R k (nW R) ^^^ (z6V R k (nW R) &&& zZ (shN R k).2.2 4095)),Int.ofNat (zZ (shN R k).2.2 4095)⟩:=by
    unfold z5w zpu zpG zjS zha
    rw [ha1,hc1,hc2]
   have hN:=congrArg List.length e
   rw [List.length_append,List.length_singleton] at hN
   refine ⟨g,?_,trivial⟩
   exact zP (ps:=[(0,4),(1,1)]) ⟨rfl,rfl,(by repeat (first | exact zw | refine zq rfl rfl rfl ?_ | refine z2a rfl rfl z6i ?_ | refine z2a rfl rfl (AImp.acc hN.symm (fun _=>rfl)) ?_)),_,rfl,⟨rfl,BImp.acc hN.symm (fun q hq=>by rw [e];exact zb7 _ _ _ (by rw [es];rfl) q hq),rfl,BImp.refl _,trivial⟩⟩
 have g:k=nM R:=by have:=nge g;omega
 subst g
 refine VSt.go za false [14] 200 rfl AllP.n ?_
 refine zb (z1H 0 rfl rfl (by (repeat (first | exact AllP.n | refine AllP.c (by first | assumption | rfl | omega | exact yn _ | (show 0<_;omega) | (show 1<_;omega) | (show 2<_;omega) | (show 3<_;omega) | (intro _ _;rfl) | (intro q hq;match q,hq with | 0,_=>rfl) | (unfold inR;(try simp only [ym]);omega)) ?_)))) ?_
 refine VSt.go za false [] 200 rfl AllP.n ?_
 refine zm (z3E 3 6 (fS []) 74 rfl) ?_
 refine zm (z3E 4 2 (fW []) 58 rfl) ?_
 refine VSt.loop (α :=Nat) (fun j F L=>j≤30∧F=hpF R j∧L=hpL R j) (fun j=>30 - j) 0 (zP (ps:=[(1,1),(2,2),(3,3),(4,4)]) (F0:=hpF R 0) (L0:=hpL R 0) ⟨rfl,rfl,(by repeat (first | exact zw | refine zq rfl rfl rfl ?_)),_,rfl,⟨rfl,BImp.refl _,rfl,BImp.cells ⟨z1b,z1b,trivial⟩,rfl,BImp.refl _,rfl,BImp.refl _,trivial⟩⟩) ⟨yw _,rfl,rfl⟩ ?_
 rintro j F L ⟨hj,rfl,rfl⟩
 have hsl:=zep R j
 have hwl:=yo (zac (R:=R) j) hsl
 refine VSt.go za false [] 200 rfl AllP.n ?_
 refine VSt.cond rfl (fun g=>?_) (fun g=>?_)
 rotate_left
 ·have g:j=30:=by
   have g:¬ Int.ofNat (j+1)≤30:=of_decide_eq_false g
   simp only [ym] at g;omega
  subst g
  refine VSt.go za false [180] 200 rfl AllP.n ?_
  refine zb (z1H 3 rfl rfl (by (repeat (first | exact AllP.n | refine AllP.c (by first | assumption | rfl | omega | exact yn _ | (show 0<_;omega) | (show 1<_;omega) | (show 2<_;omega) | (show 3<_;omega) | (intro _ _;rfl) | (intro q hq;match q,hq with | 0,_=>rfl) | (unfold inR;(try simp only [ym]);omega)) ?_)))) ?_
  refine zb (z1H 4 rfl rfl (by (repeat (first | exact AllP.n | refine AllP.c (by first | assumption | rfl | omega | exact yn _ | (show 0<_;omega) | (show 1<_;omega) | (show 2<_;omega) | (show 3<_;omega) | (intro _ _;rfl) | (intro q hq;match q,hq with | 0,_=>rfl) | (unfold inR;(try simp only [ym]);omega)) ?_)))) ?_
  refine VSt.go za false [] 200 rfl AllP.n ?_
  exact ⟨rfl,_,rfl,rfl,AImp.tup ⟨AImp.agg ⟨z02 (zoc rfl),z02 (zob rfl),trivial⟩,AImp.refl _,trivial⟩⟩
 have g:j<30:=by
  have g:Int.ofNat (j+1)≤30:=of_decide_eq_true g
  simp only [ym] at g;omega
 have hix:inR (Int.ofNat (j+1)+1):=by unfold inR;simp only [ym];omega
 refine VSt.go za false [] 200 rfl AllP.n ?_
 refine VSt.pc rfl rfl rfl rfl rfl rfl rfl rfl ((zbC (b:=(zF R).isEmpty) (l:=zF R) (n:=Int.ofNat (j+1)) (by omega))) ?_
 refine VSt.go za false [147] 200 rfl AllP.n ?_
 refine z07 16 (iv (y8 R (j+1))) rfl (AImp.refl _) ?_
 refine VSt.go za false [] 200 rfl AllP.n ?_
 rcases z3R R (j+1) with ⟨e,_⟩ | ⟨k,e,hk,h3⟩
 ·have e1:zU R (j+1)=zU R j:=by
   show (bif decide (y8 R (j+1)<0) then zU R j else zU R j++[z5w R (y8 R (j+1)).toNat])=_
   rw [e];rfl
  have e2:zW R (j+1)=zW R j:=by
   show (bif decide (y8 R (j+1)<0) then zW R j else bif zeu R (j+1) then zW R j++[⟨Int.ofNat (j+1),(zF R).getD ((y8 R (j+1)).toNat+1) 0⟩] else zW R j)=_
   rw [e];rfl
  refine VSt.cond rfl (fun q=>?_) (fun q=>absurd (of_decide_eq_false q) (by rw [e];decide))
  refine VSt.go za false [] 200 rfl (AllP.c ‹_› AllP.n) ?_
  have e3:hpL R (j+1)=hpL R j:=by unfold hpL;rw [e1,e2]
  exact ⟨j+1,hpF R (j+1),hpL R j,zP (ps:=[(1,1),(2,2),(3,3),(4,4)]) ⟨rfl,rfl,(by repeat (first | exact zw | refine zq rfl rfl rfl ?_)),_,rfl,⟨rfl,BImp.refl _,rfl,BImp.refl _,rfl,BImp.refl _,rfl,BImp.refl _,trivial⟩⟩,⟨g,rfl,e3.symm⟩,by show 30 - (j+1)<30 - j;omega⟩
 have hkl:k<(z9a R (nM R)).length:=by rw [z5v];exact hk
 have hnth:zg (z9a R (nM R)) k=z5w R k:=by
  unfold zg z9a
  rw [zx (show k<((List.range (nM R)).map (z5w R)).length by rw [List.length_map,List.length_range];exact hk),List.getElem_map,List.getElem_range]
 have e1:zU R (j+1)=zU R j++[z5w R k]:=by
  show (bif decide (y8 R (j+1)<0) then zU R j else zU R j++[z5w R (y8 R (j+1)).toNat])=_
  rw [e];rfl
 have hN1:=congrArg List.length e1
 rw [List.length_append,List.length_singleton] at hN1
 have hsw2:zeu R (j+1)=(decide (k+1<nM R)&&R.sw.contains (Int.ofNat k)):=by unfold zeu;rw [e];rfl
 have e2:zW R (j+1)=bif zeu R (j+1) then zW R j++[⟨Int.ofNat (j+1),(zF R).getD (k+1) 0⟩] else zW R j:=by
  show (bif decide (y8 R (j+1)<0) then zW R j else bif zeu R (j+1) then zW R j++[⟨Int.ofNat (j+1),(zF R).getD ((y8 R (j+1)).toNat+1) 0⟩] else zW R j)=_
  rw [e];rfl
 refine VSt.cond rfl (fun q=>absurd (of_decide_eq_true q) (by rw [e];simp only [ym];omega)) (fun q=>?_)
 refine VSt.putC 16 (nv k) rfl (z1X e) ?_
 refine VSt.go za false [] 200 rfl (AllP.c ‹_› (AllP.c rfl (AllP.c (by omega) (AllP.c (by omega) (AllP.c (fun q hq=>match q,hq with | 0,_=>rfl) (AllP.c rfl (AllP.c rfl (AllP.c rfl (AllP.c (by unfold inR;(try simp only [ym]);omega) AllP.n))))))))) ?_
 refine zi 162 rfl (fun q1=>?_) (fun q1=>?_)
 rotate_left
 ·have q1:decide (k+1<nM R)=false:=decide_eq_false (Nat.not_lt.2 (nge (k:=k+1) q1))
  rw [hsw2,q1,Bool.false_and,cond_false] at e2
  have e2:zW R (j+1)=zW R j:=e2
  refine VSt.go za false [] 200 rfl (AllP.c ‹_› AllP.n) ?_
  have e3:hpL R (j+1)=hpM R (j+1) j:=by unfold hpL hpM;rw [e2]
  refine ⟨j+1,hpF R (j+1),hpM R (j+1) j,zP (ps:=[(1,1),(2,2),(3,5),(4,4)]) ⟨rfl,rfl,(by repeat (first | exact zw | refine zq rfl rfl rfl ?_)),_,rfl,⟨rfl,BImp.refl _,rfl,BImp.cells ⟨AImp.acc hN1.symm (fun _=>rfl),AImp.refl _,trivial⟩,rfl,BImp.acc hN1.symm (fun q hq=>by rw [e1];exact zb7 _ _ _ (by rw [hnth];rfl) q hq),rfl,BImp.refl _,trivial⟩⟩,⟨g,rfl,e3.symm⟩,by show 30 - (j+1)<30 - j;omega⟩
 have q1:k+1<nM R:=nlt (k:=k+1) q1
 have hk1:k+1<(zF R).length:=by omega
 refine VSt.go za false [] 200 rfl AllP.n ?_
 refine VSt.pc rfl rfl rfl rfl rfl rfl rfl rfl ((zhF (b:=R.swB) (l:=R.sw) (n:=Int.ofNat k) hsw)) ?_
 refine VSt.go za false [] 200 rfl AllP.n ?_
 refine VSt.cond rfl (fun q2=>?_) (fun q2=>?_)
 ·have q2:R.sw.contains (Int.ofNat k)=true:=q2
  rw [hsw2,decide_eq_true q1,q2,Bool.true_and,cond_true] at e2
  have hN2:=congrArg List.length e2
  rw [List.length_append,List.length_singleton] at hN2
  refine VSt.go za false [174] 200 rfl (AllP.c (by unfold inR;(try simp only [ym]);omega) AllP.n) ?_
  refine z0h 173 (nv (k+1)) rfl (z1X rfl) ?_
  refine VSt.go za false [] 200 rfl (AllP.c ‹_› (AllP.c rfl (AllP.c (by omega) (AllP.c (by omega) (AllP.c (fun q hq=>match q,hq with | 0,_=>rfl) (AllP.c rfl (AllP.c rfl (AllP.c rfl (AllP.c ‹_› AllP.n))))))))) ?_
  refine ⟨j+1,hpF R (j+1),hpL R (j+1),zP (ps:=[(1,1),(2,2),(3,5),(4,6)]) ⟨rfl,rfl,(by repeat (first | exact zw | refine zq rfl rfl rfl ?_)),_,rfl,⟨rfl,BImp.refl _,rfl,BImp.cells ⟨AImp.acc hN1.symm (fun _=>rfl),AImp.acc hN2.symm (fun _=>rfl),trivial⟩,rfl,BImp.acc hN1.symm (fun q hq=>by rw [e1];exact zb7 _ _ _ (by rw [hnth];rfl) q hq),rfl,BImp.acc hN2.symm (fun q hq=>by rw [e2];exact zo6 _ ⟨Int.ofNat (j+1),(zF R).getD (k+1) 0⟩ _ rfl q hq),trivial⟩⟩,⟨g,rfl,rfl⟩,by show 30 - (j+1)<30 - j;omega⟩
 ·have q2:R.sw.contains (Int.ofNat k)=false:=q2
  rw [hsw2,q2,Bool.and_false,cond_false] at e2
  have e2:zW R (j+1)=zW R j:=e2
  refine VSt.go za false [] 200 rfl (AllP.c ‹_› AllP.n) ?_
  have e3:hpL R (j+1)=hpM R (j+1) j:=by unfold hpL hpM;rw [e2]
  refine ⟨j+1,hpF R (j+1),hpM R (j+1) j,zP (ps:=[(1,1),(2,2),(3,5),(4,4)]) ⟨rfl,rfl,(by repeat (first | exact zw | refine zq rfl rfl rfl ?_)),_,rfl,⟨rfl,BImp.refl _,rfl,BImp.cells ⟨AImp.acc hN1.symm (fun _=>rfl),AImp.refl _,trivial⟩,rfl,BImp.acc hN1.symm (fun q hq=>by rw [e1];exact zb7 _ _ _ (by rw [hnth];rfl) q hq),rfl,BImp.refl _,trivial⟩⟩,⟨g,rfl,e3.symm⟩,by show 30 - (j+1)<30 - j;omega⟩
set_option maxHeartbeats 8000000 in
theorem zlB {h:Hp} (hn:h.st.length≤1000) (hm:h.sw.length≤1000) (h0:0<h.st.length):VC (sE r) [] 103 [.agg ((eHp h).map .p)] [] (fun a L'=>a = .agg [.sl 0 6 0 (0+h.st.length) (0+h.st.length) 0,.p (z1F false h.sw)]∧L'=[(1,.cells [.sl 0 6 0 (0+h.st.length) (0+h.st.length) 0,.p (z1F false h.sw)] 25),(0,.arr (0+h.st.length) 6 (fS h.st) 74)]):=by
 refine z6f (fn:=Tryz.f103) za (zK rfl) (by kernel_rfl) rfl rfl ?_
 by_cases h1:h.sw.length=0
 ·refine VSt.go za false [7] 200 rfl (AllP.c ‹_› (AllP.c (by omega) (AllP.c (fun _ _=>rfl) (AllP.c rfl (AllP.c rfl (AllP.c (by omega) (AllP.c (by omega) AllP.n))))))) ?_
  refine VSt.go za true [11] 200 rfl (AllP.c ‹_› AllP.n) ?_
  refine VSt.go za false [] 4 rfl (by (repeat (first | exact AllP.n | refine AllP.c (by first | assumption | rfl | omega | exact yn _ | (show 0<_;omega) | (show 1<_;omega) | (show 2<_;omega) | (show 3<_;omega) | (intro _ _;rfl) | (intro q hq;match q,hq with | 0,_=>rfl) | (unfold inR;(try simp only [ym]);omega)) ?_))) ?_
  refine zm (Vw.kp [2] [(1,1),(3,3),(4,4)] rfl) ?_
  refine zm (Vw.freeze 4 rfl rfl ⟨yn _,yn _,rfl⟩) ?_
  refine zm (zP (ps:=[(1,1),(0,3)]) (F0:=[(2,.ref 1 0)]) (L0:=[(1,.cells [.sl 0 6 0 (0+h.st.length) (0+h.st.length) 0,.p (z1F false h.sw)] 25),(0,.arr (0+h.st.length) 6 (fS h.st) 74)]) ⟨rfl,rfl,(by repeat (first | exact zw | refine zq rfl rfl rfl ?_)),_,rfl,⟨rfl,BImp.cells ⟨AImp.refl _,z5I h1,trivial⟩,rfl,BImp.arr (fun q _=>rfl),trivial⟩⟩) ?_
  refine VSt.go za false [] 200 rfl AllP.n ?_
  exact ⟨rfl,_,rfl,rfl,rfl⟩
 ·have k1:0<h.sw.length:=by omega
  refine VSt.go za false [7] 200 rfl (AllP.c ‹_› (AllP.c (by omega) (AllP.c (fun _ _=>rfl) (AllP.c rfl (AllP.c rfl (AllP.c (by omega) (AllP.c (by omega) AllP.n))))))) ?_
  refine VSt.go za false [11] 200 rfl (AllP.c ‹_› (AllP.c (by omega) (AllP.c (fun _ _=>rfl) (AllP.c rfl (AllP.c rfl (AllP.c (by omega) (AllP.c (by omega) AllP.n))))))) ?_
  refine VSt.go za false [] 4 rfl (by (repeat (first | exact AllP.n | refine AllP.c (by first | assumption | rfl | omega | exact yn _ | (show 0<_;omega) | (show 1<_;omega) | (show 2<_;omega) | (show 3<_;omega) | (intro _ _;rfl) | (intro q hq;match q,hq with | 0,_=>rfl) | (unfold inR;(try simp only [ym]);omega)) ?_))) ?_
  refine zm (Vw.kp [2] [(1,1),(3,3),(5,5)] rfl) ?_
  refine zm (Vw.freeze 5 rfl rfl ⟨Nat.le_of_eq (Nat.zero_add _),yn _,rfl⟩) ?_
  refine zm (zP (ps:=[(1,1),(0,3)]) (F0:=[(2,.ref 1 0)]) (L0:=[(1,.cells [.sl 0 6 0 (0+h.st.length) (0+h.st.length) 0,.p (z1F false h.sw)] 25),(0,.arr (0+h.st.length) 6 (fS h.st) 74)]) ⟨rfl,rfl,(by repeat (first | exact zw | refine zq rfl rfl rfl ?_)),_,rfl,⟨rfl,BImp.cells ⟨AImp.refl _,z3W (g:=fun i=>bif i.blt 0 then (fun _=>[]) (0+i) else fW h.sw (i - 0)) (fun _=>rfl),trivial⟩,rfl,BImp.arr (fun q _=>rfl),trivial⟩⟩) ?_
  refine VSt.go za false [] 200 rfl AllP.n ?_
  exact ⟨rfl,_,rfl,rfl,rfl⟩
theorem zp6 {h:Hp} (n:OkH h) (h1:h.stB=true→h.st=[]) (h2:h.swB=true→h.sw=[]):SzH h:=by
 refine ⟨by have:=n.st;omega,by have:=n.sw;omega,fun k hk=>?_,h1,h2⟩
 have b:=(n.ok k hk).bit
 have b1:=b.h1;have b2:=b.h2;have b3:=b.u1;have b4:=b.u2
 refine ⟨?_,?_⟩
 ·unfold inR;rw [b1];simp only [ym];omega
 ·unfold inR;rw [b3];simp only [ym];omega
theorem zp7 {h:Hp} (n:OkH h):ppE h 3=0:=by
 unfold ppE
 rw [if_pos (zfj n)];rfl
theorem zrz (l:List Int):eL l=z4f l.isEmpty l:=rfl
def kV (k:Int×Int):Value:=.agg #[.int .i64 k.1,.int .i64 k.2]
abbrev yf:=List ((Int×Int)×Int)
def z5T (c:yf):List (Value×Value):=c.map fun x=>(kV x.1,.int .i64 x.2)
def eqK (a b:Int×Int):Bool:=(a.1==b.1)&&((a.2==b.2)&&true)
theorem eqK_iff {a b:Int×Int}:eqK a b=true ↔ a=b:=by
 unfold eqK
 rw [Bool.and_true,yx,beq_iff_eq,beq_iff_eq]
 exact ⟨fun h=>Prod.ext h.1 h.2,fun h=>⟨congrArg Prod.fst h,congrArg Prod.snd h⟩⟩
def z4Z (k:Int×Int):yf→Nat→Option (Nat×Int)
 | [],_=>none
 | x::c,i=>bif eqK k x.1 then some (i,x.2) else z4Z k c (i+1)
def z3N (c:yf) (k:Int×Int):Int:=((z4Z k c 0).map (·.2)).getD 0
def zkY (c:yf) (k:Int×Int):Nat:=((z4Z k c 0).map (·.1)).getD c.length
noncomputable def zfv (c:yf) (k:Int×Int):yf:=Option.rec (c++[(k,0)]) (fun _=>c) (z4Z k c 0)
theorem zpk (a b:Int×Int):z2d (sE r) 58 (kV a) (kV b)=some (eqK a b):=by
 have e:z2d (sE r) 58 (kV a) (kV b)=ob (gd (decide (IntKind.i64=IntKind.i64)) (some (a.1==b.1))) fun p=>ob (ob (gd (decide (IntKind.i64=IntKind.i64)) (some (a.2==b.2))) fun p=>ob (some true) fun q=>some (p&&q)) fun q=>some (p&&q):=by
  obtain ⟨t,q⟩:=r
  cases q <;> kernel_rfl
 rw [e];rfl
theorem ziW (k:Int×Int):∀ (c:yf) (i:Nat),z5i (sE r) 58 (kV k) (z5T c) i=some ((z4Z k c i).map fun q=>(q.1,.int .i64 q.2))
 | [],_=>rfl
 | x::c,i=>by
  show ob (z2d (sE r) 58 (kV k) (kV x.1)) _=_
  rw [zpk]
  show bf (eqK k x.1) (some (some (i,Value.int .i64 x.2))) (z5i (sE r) 58 (kV k) (z5T c) (i+1))=some ((bif eqK k x.1 then some (i,x.2) else z4Z k c (i+1)).map _)
  rw [ziW k c (i+1)]
  cases eqK k x.1 <;> rfl
def zeQ (c:yf):VB:=.itr (some (.map (z5T c)))
theorem zhN {S:St} {Z:Nat→Prop} {j:Nm} {a b:Int} {v:Value} (h:VR (sE r) S Z j (.agg [iv a,iv b]) v):v=kV (a,b):=by
 cases h with
 | agg hs h =>
  rename_i vs
  unfold kV
  congr 1
  apply Array.ext'
  generalize vs.toList=l at h
  cases h with
  | cons h1 h=>cases h with
   | cons h2 h =>
    cases h
    cases h1 with
    | p h1=>cases h1;cases h2 with
     | p h2=>cases h2;rfl
theorem zay {S:St} {Z:Nat→Prop} {j:Nm} {L:VS} {i X:Nat} {c:yf} (hS:SR (sE r) S Z j L) (hb:bk L i=some (zeQ c)) (hj:j i=some X):S.heap.get X=some (.map (z5T c)):=by
 obtain ⟨b,h1,h2⟩:=hS.blk i _ hb (fun h=>h)
 rw [hj] at h1;cases h1
 exact h2
section
variable {N:Nat} {st:List Nat} {rd:Option Nat} {Q:zM} {F:VK} {L:VS}
theorem zic {x k:Operand} {i:Nat} {a b:Int} {c:yf} (hx:av F x=some (.map i)) (hk:av F k=some (.agg [iv a,iv b])) (hb:bk L i=some (zeQ c)):PureA (sE r) F L (.lookup 82 x k false) (iv (z3N c (a,b))):=fun T S Z j hS hF=>by
 obtain ⟨v,h1,h2⟩:=hF.ev hx
 obtain ⟨w,h3,h4⟩:=hF.ev hk
 have hw:=zhN h4
 subst hw
 cases h2 with
 | map hj =>
  have hm:=zay hS hb hj
  refine ⟨.int .i64 (z3N c (a,b)),fun cF dF=>?_,.p (.int _ _)⟩
  show zH S (ob (T.ev x) fun m=>ob (T.ev k) fun i=>z0l (sE r) 82 m i false S)=_
  rw [h1,h3]
  rename_i X
  have e:z0l (sE r) 82 (.map (some X)) (kV (a,b)) false S=ob (ob (S.heap.get X) z8s) fun es=>gd true (ob (z5i (sE r) 58 (kV (a,b)) es 0) fun r=>some ((r.map (·.2)).getD (.int .i64 0))):=by
   obtain ⟨t,q⟩:=r
   cases q <;> kernel_rfl
  show zH S (z0l (sE r) 82 (.map (some X)) (kV (a,b)) false S)=_
  rw [e,hm]
  show zH S (ob (z5i (sE r) 58 (kV (a,b)) (z5T c) 0) fun r=>some ((r.map (·.2)).getD (.int .i64 0)))=_
  rw [ziW]
  unfold z3N
  cases z4Z (a,b) c 0 <;> rfl
theorem zgu {ops:Array Oper} {bs:List Nat} {ks:List (Nat×Option Nat)} {i:Nat} {o:Oper} {rest:List Oper} {K:List KI} {x k:Operand} {a b:Int} {c:yf} (at_:Nat) (hg:vgl ops F o.guard=some true) (hd:zJ o.dst N=true) (hop:o.op = .mapEntry 82 x k) (hks:(at_,none)∈ks) (hc:zmG ops bs F at_ i o.op=true)
  (hx:av F x=some (.map at_)) (hk:av F k=some (.agg [iv a,iv b])) (hb:bk L at_=some (zeQ c))
  (h:VSt.H (sE r) N st rd Q (.dops ops bs ks rest (i+1) K (zN o.dst (.tup [iv (z3N c (a,b)),nv (zkY c (a,b))]) F) (up L at_ (zeQ (zfv c (a,b)))))):VSt.H (sE r) N st rd Q (.dops ops bs ks (o::rest) i K F L):=by
 refine zjE at_ hg hd hks hc (fun T S Z j hS hF hl=>?_) h
 obtain ⟨v,h1,h2⟩:=hF.ev hx
 obtain ⟨w,h3,h4⟩:=hF.ev hk
 have hw:=zhN h4
 subst hw
 cases h2 with
 | map hj =>
  rename_i X
  have hm:=zay hS hb hj
  rw [hop]
  refine ⟨.tuple #[.int .i64 (z3N c (a,b)),.int .i64 (Int.ofNat (zkY c (a,b)))],S.put X (.map (z5T (zfv c (a,b)))),X,hj,?_,fun cF dF=>?_,?_,hS.put hb hj (z0p (S:=S) (o:=.map (z5T (zfv c (a,b))))),hF.mono' (z04 hS hj _) (fun _ _ h=>h),Ex.put hS hj _,yo (Nat.min_le_right _ _) hl⟩
  ·show ob (T.ev x) z3J=_
   rw [h1];rfl
  ·show ob (T.ev x) (fun m=>ob (T.ev k) fun k=>z7j (sE r) 82 m k S)=_
   rw [h1,h3]
   have e:z7j (sE r) 82 (.map (some X)) (kV (a,b)) S=ob (ob (S.heap.get X) z8s) fun es=>ob (z5i (sE r) 58 (kV (a,b)) es 0) fun f =>
     Option.rec (some (Value.tuple #[.int .i64 0,.int .i64 es.length],S.put X (.map (es++[(kV (a,b),.int .i64 0)])))) (fun q=>some (.tuple #[q.2,.int .i64 q.1],S.put X (.map es))) f:=by
    obtain ⟨t,q⟩:=r
    cases q <;> kernel_rfl
   show z7j (sE r) 82 (.map (some X)) (kV (a,b)) S=_
   rw [e,hm]
   show ob (z5i (sE r) 58 (kV (a,b)) (z5T c) 0) _=_
   rw [ziW]
   unfold z3N zkY zfv
   cases z4Z (a,b) c 0 with
   | some q=>rfl
   | none =>
    show some (Value.tuple #[.int .i64 0,.int .i64 (z5T c).length],S.put X (.map (z5T c++[(kV (a,b),.int .i64 0)])))=some (Value.tuple #[.int .i64 0,.int .i64 (Int.ofNat c.length)],S.put X (.map (z5T (c++[((a,b),0)]))))
    unfold z5T
    rw [List.length_map,List.map_append];rfl
  ·exact .tup (.cons (.p (.int _ _)) (.cons (.p (.int _ _)) .nil))
theorem zgt {ops:Array Oper} {bs:List Nat} {ks:List (Nat×Option Nat)} {i:Nat} {o:Oper} {rest:List Oper} {K:List KI} {x s y:Operand} {n:Int} {q:Nat} {k:Int×Int} {m:Int} {c:yf} (at_:Nat) (hg:vgl ops F o.guard=some true) (hd:zJ o.dst N=true) (hu:uni bs i=true) (hop:o.op = .entryStore 82 x s y)
  (hx:av F x=some (.map at_)) (hs:av F s=some (nv q)) (hy:av F y=some (iv n)) (hb:bk L at_=some (zeQ c)) (hq:c[q]? = some (k,m))
  (h:VSt.H (sE r) N st rd Q (.dops ops bs ks rest (i+1) K (zN o.dst .junk F) (up L at_ (zeQ (c.set q (k,n)))))):VSt.H (sE r) N st rd Q (.dops ops bs ks (o::rest) i K F L):=by
 refine zjD hg hd hu (fun T S Z j hS hF hl=>?_) h
 obtain ⟨v,h1,h2⟩:=hF.ev hx
 obtain ⟨w,h3,h4⟩:=hF.ev hs
 obtain ⟨u,h5,h6⟩:=hF.ev hy
 cases h4 with
 | p h4 =>
  cases h4
  cases h6 with
  | p h6 =>
   cases h6
   cases h2 with
   | map hj =>
    rename_i X
    have hm:=zay hS hb hj
    rw [hop]
    refine ⟨undef,S.put X (.map (z5T (c.set q (k,n)))),j,fun cF dF=>?_,.junk _,hS.put hb hj (z0p (S:=S) (o:=.map (z5T (c.set q (k,n))))),hF.mono' (z04 hS hj _) (fun _ _ h=>h),Ex.put hS hj _,yo (Nat.min_le_right _ _) hl,fun _ _ h=>h⟩
    show ob (T.ev x) (fun m=>ob (T.ev s) fun s=>ob (T.ev y) fun v=>ob (z2x m s v S) fun S'=>some (undef,S'))=_
    rw [h1,h3,h5]
    show ob (ob (ob (S.heap.get X) z8s) fun es=>ob es[q]? fun p=>some (S.put X (.map (es.set q (p.1,.int .i64 n))))) (fun S'=>some (undef,S'))=_
    rw [hm]
    show ob (ob (z5T c)[q]? fun p=>some (S.put X (.map ((z5T c).set q (p.1,.int .i64 n))))) (fun S'=>some (undef,S'))=_
    have e:(z5T c)[q]? = some (kV k,.int .i64 m):=by
     unfold z5T
     rw [List.getElem?_map,hq];rfl
    rw [e]
    show some (undef,S.put X (.map ((z5T c).set q (kV k,.int .i64 n))))=_
    unfold z5T
    rw [List.map_set]
theorem zly {ops:Array Oper} {o:Oper} {rest:List Oper} {K:List KI} {t:Nat} {x:Option Operand} (i:Nat) (hi:bk L i=none) (hg:vgl ops F o.guard=some true) (hd:zJ o.dst N=true) (hop:o.op = .makeMap t x) (hx:x=none)
  (h:VSt.H (sE r) N st rd Q (.ops ops rest K (zN o.dst (.map i) F) ((i,zeQ [])::L))):VSt.H (sE r) N st rd Q (.ops ops (o::rest) K F L):=by
 refine z6c hg hd (fun T S Z j hS hF hl=>?_) h
 subst hx
 rw [hop]
 have hle:=z5R hS hi S.size
 refine ⟨.map (some S.size),S.new (.map []),ext j i S.size,fun cF dF=>rfl,.map (z0j j i S.size),SR.newAt hi hS (by show (S.new (.map [])).heap.get S.size=_;rw [z0g,if_pos rfl];rfl),hF.mono' (z0b hS _) hle,Ex.newAt i _,Nat.le_succ_of_le hl,hle⟩
end
section
variable {E:Env} {N:Nat} {st:List Nat} {rd:Option Nat} {Q:zM}
theorem zjH {ti:Nat} {b:Code} {K:List KI} {F:VK} {L:VS} (n s at_:Nat) (kept:List Nat) (v:Nat→VB) (P:Nat→Prop)
  (hk:(kept.all fun t=>!Nat.beq ti t&&Option.rec false (fun _=>true) (ak F t))=true)
  (hi:ak F ti=some (nv s)) (hb0:bk L at_=some (v 0)) (hP:P 0)
  (hb:∀ k,k≤n→P k→VSt.H E N st rd Q (.code b (.inv (fun F' L'=>k<n∧Vw E st F' L' ((ti,nv (s+(k+1)))::(kept.filterMap fun t=>(ak F t).map (Prod.mk t))) (up L at_ (v (k+1)))∧P (k+1))::K) ((ti,nv (s+k))::(kept.filterMap fun t=>(ak F t).map (Prod.mk t))) (up L at_ (v k)))) :
  VSt.H E N st rd Q (.code (.loop b) K F L):=by
 have hmem:∀ p∈(kept.filterMap fun t=>(ak F t).map (Prod.mk t)),p.1∈kept∧ak F p.1=some p.2:=by
  intro p hp
  obtain ⟨t,h1,h2⟩:=List.mem_filterMap.1 hp
  cases ha:ak F t with
  | none=>rw [ha] at h2;cases h2
  | some a=>rw [ha] at h2;cases h2;exact ⟨h1,ha⟩
 refine VSt.loop (α :=Nat) (fun k F' L'=>k≤n∧P k∧F'=((ti,nv (s+k))::(kept.filterMap fun t=>(ak F t).map (Prod.mk t)))∧L'=up L at_ (v k)) (fun k=>n - k) 0 (F0:=((ti,nv (s+0))::(kept.filterMap fun t=>(ak F t).map (Prod.mk t)))) (L0:=L) (Vw.sub fun p hp=>?_) ⟨yw _,hP,rfl,(zh9 hb0).symm⟩ ?_
 ·rcases List.mem_cons.1 hp with e | hp
  ·rw [e];exact hi
  ·exact (hmem _ hp).2
 ·rintro k F' L' ⟨h1,h2,rfl,rfl⟩
  refine VW.mono (hb k h1 h2) fun e F2 L2 hq=>?_
  cases e with
  | normal =>
   obtain ⟨g1,g2,g3⟩:=hq
   exact ⟨k+1,_,_,g2,⟨g1,g3,rfl,rfl⟩,by omega⟩
  | ret=>exact hq
  | exit k=>exact hq
end
noncomputable def zg9 (c:yf) (k:Int×Int):yf:=(zfv c k).set (zkY c k) (k,z3N c k+1)
theorem z5E {k:Int×Int}:∀ (c:yf) (i:Nat),z4Z k c i=(z4Z k c 0).map fun q=>(q.1+i,q.2)
 | [],_=>rfl
 | x::c,i=>by
  show (bif eqK k x.1 then some (i,x.2) else z4Z k c (i+1))=(bif eqK k x.1 then some (0,x.2) else z4Z k c 1).map _
  rw [z5E c (i+1),z5E c 1]
  cases eqK k x.1 with
  | true=>show some (i,x.2)=some (0+i,x.2);rw [Nat.zero_add]
  | false =>
   show (z4Z k c 0).map _=((z4Z k c 0).map _).map _
   rw [Option.map_map]
   congr 1
   funext q
   show (q.1+(i+1),q.2)=(q.1+1+i,q.2)
   rw [Nat.add_assoc,Nat.add_comm 1 i]
theorem z8l {k:Int×Int}:∀ {c:yf} {q:Nat×Int},z4Z k c 0=some q→c[q.1]? = some (k,q.2)
 | [],q,h=>by cases h
 | x::c,q,h=>by
  have h:(bif eqK k x.1 then some (0,x.2) else z4Z k c 1)=some q:=h
  cases he:eqK k x.1 with
  | true =>
   rw [he] at h;cases h
   have:=eqK_iff.1 he
   show some x=some (k,x.2)
   rw [this]
  | false =>
   rw [he,cond_false,z5E c 1] at h
   cases hp:z4Z k c 0 with
   | none=>rw [hp] at h;cases h
   | some q' =>
    rw [hp] at h;cases h
    show c[q'.1]? = _
    exact z8l hp
theorem zan {k:Int×Int}:∀ {c:yf},z4Z k c 0=none→∀ x∈c,x.1≠k
 | [],_,x,hx=>by cases hx
 | y::c,h,x,hx=>by
  have h:(bif eqK k y.1 then some (0,y.2) else z4Z k c 1)=none:=h
  cases he:eqK k y.1 with
  | true=>rw [he] at h;cases h
  | false =>
   rw [he,cond_false,z5E c 1] at h
   have hp:z4Z k c 0=none:=by
    cases hp:z4Z k c 0 with
    | none=>rfl
    | some q=>rw [hp] at h;cases h
   rcases List.mem_cons.1 hx with rfl | hx
   ·intro e
    rw [eqK_iff.2 e.symm] at he;cases he
   ·exact zan hp x hx
theorem zpZ (c:yf) (k:Int×Int):(zfv c k)[zkY c k]? = some (k,z3N c k):=by
 unfold zfv zkY z3N
 cases hp:z4Z k c 0 with
 | some q=>exact z8l hp
 | none =>
  show (c++[(k,0)])[c.length]? = some (k,0)
  rw [List.getElem?_append_right (yn _),Nat.sub_self];rfl
def Bnd (c:yf) (m:Nat):Prop:=(∀ x∈c,0≤x.2∧x.2≤Int.ofNat m)∧c.length≤m
theorem ziL {c:yf} {m:Nat} (h:Bnd c m) (k:Int×Int):0≤z3N c k∧z3N c k≤Int.ofNat m:=by
 unfold z3N
 cases hp:z4Z k c 0 with
 | none=>exact ⟨Int.le_refl 0,Int.natCast_nonneg m⟩
 | some q=>exact h.1 _ (List.mem_of_getElem? (z8l hp))
theorem znx {c:yf} {m:Nat} (h:Bnd c m) (k:Int×Int):Bnd (zg9 c k) (m+1):=by
 have hg:=ziL h k
 have ha:∀ x∈zfv c k,0≤x.2∧x.2≤Int.ofNat m:=by
  unfold zfv
  cases hp:z4Z k c 0 with
  | some q=>exact h.1
  | none =>
   intro x hx
   rcases List.mem_append.1 (show x∈c++[(k,0)] from hx) with hx | hx
   ·exact h.1 x hx
   ·rw [List.mem_singleton.1 hx]
    exact ⟨Int.le_refl 0,Int.natCast_nonneg m⟩
 have hl:(zfv c k).length≤c.length+1:=by
  unfold zfv
  cases hp:z4Z k c 0 with
  | some q=>exact Nat.le_succ _
  | none=>show (c++[(k,0)]).length≤_;rw [List.length_append];exact yn _
 refine ⟨fun x hx=>?_,?_⟩
 ·rcases List.mem_or_eq_of_mem_set hx with hx | rfl
  ·have:=ha x hx
   simp only [ym] at *;omega
  ·simp only [ym] at *;omega
 ·unfold zg9
  rw [List.length_set]
  have:=h.2
  omega
def z5b (ids:List Int):List (Int×Int):=ids.zip ids.tail
noncomputable def z9T (c:yf) (l:List (Int×Int)):yf:=l.foldl zg9 c
theorem zdW:∀ {l:List (Int×Int)} {c:yf} {m:Nat},Bnd c m→Bnd (z9T c l) (m+l.length)
 | [],c,m,h=>h
 | k::l,c,m,h=>by
  have:=zdW (l:=l) (znx h k)
  show Bnd (z9T (zg9 c k) l) (m+(l.length+1))
  rw [show m+(l.length+1)=m+1+l.length by omega];exact this
theorem zi6 (ids:List Int):(z5b ids).length=ids.length - 1:=by
 unfold z5b
 rw [List.length_zip,List.length_tail];omega
theorem zp9 {ids:List Int} {k:Nat} (h:k+1<ids.length):(z5b ids)[k]? = some (ids.getD k 0,ids.getD (k+1) 0):=by
 unfold z5b
 rw [List.getElem?_eq_getElem (by rw [List.length_zip,List.length_tail];omega),List.getElem_zip,List.getElem_tail,zx (by omega),zx h]
theorem zld {c:yf} {l:List (Int×Int)} {k:Nat} {x:Int×Int} (h:l[k]? = some x):z9T c (l.take (k+1))=zg9 (z9T c (l.take k)) x:=by
 unfold z9T
 rw [List.take_add_one,h,List.foldl_append];rfl
noncomputable def zqV (rows:List (List Int)):yf:=rows.foldl (fun c ids=>z9T c (z5b ids)) []
noncomputable def zcz (h:Hp) (p:Int) (q:Nat):yf:=zqV (((zC h p).take q).map (y7 h p))
theorem zcy {h:Hp} {p:Int} {q:Nat} {row:List Nat} (hq:(zC h p)[q]? = some row):zcz h p (q+1)=z9T (zcz h p q) (z5b (y7 h p row)):=by
 unfold zcz zqV
 rw [List.take_add_one,hq,List.map_append,List.foldl_append];rfl
theorem zaT {h:Hp} {p:Int} (hO:OkH h):∀ q,Bnd (zcz h p q) (q*7)
 | 0=>⟨fun x hx=>(by cases hx),yn _⟩
 | q+1=>by
  have ih:=zaT (p:=p) hO q
  cases hq:(zC h p)[q]? with
  | none =>
   have e:zcz h p (q+1)=zcz h p q:=by
    unfold zcz
    rw [List.take_add_one,hq];simp
   rw [e]
   exact ⟨fun x hx=>⟨(ih.1 x hx).1,Int.le_trans (ih.1 x hx).2 (by simp only [ym];omega)⟩,by have:=ih.2;omega⟩
  | some row =>
   rw [zcy hq]
   have h1:=zdW (l:=z5b (y7 h p row)) ih
   have h2:=zi6 (y7 h p row)
   have h3:(y7 h p row).length≤7:=by
    unfold y7
    rw [List.length_map,z0w,zdL _ (List.mem_filter.1 (List.mem_of_getElem? hq)).1]
    have:=z3C hO p
    show (zL h.st p).length+0≤7
    omega
   exact ⟨fun x hx=>⟨(h1.1 x hx).1,Int.le_trans (h1.1 x hx).2 (by simp only [ym];omega)⟩,by have:=h1.2;omega⟩
def prX (c:yf) (q:Nat):VS:=[(12,.cells [.map 14] 82),(13,.cells [nv q] 3),(14,zeQ c)]
set_option maxHeartbeats 8000000 in
theorem zeF {h:Hp} {p:Int} (hz:SzH h) (hO:OkH h):VC (sE r) [] 75 [.agg ((eHp h).map .p),iv p] [] (fun a L'=>a = .tup [.map 0,nv (zC h p).length]∧L'=[(1,.cells [.map 0] 82),(2,.cells [nv (zC h p).length] 3),(0,zeQ (zcz h p (zC h p).length))]):=by
 have hol:=zeG hO p
 refine z6f (fn:=Tryz.f75) za (zK rfl) (by kernel_rfl) rfl rfl ?_
 refine VSt.go za false [10] 200 rfl AllP.n ?_
 refine zb (zk 0 (eHp h) rfl rfl) ?_
 refine zly 14 rfl rfl rfl rfl rfl ?_
 refine VSt.go za false [] 200 rfl AllP.n ?_
 refine VSt.pc rfl rfl rfl rfl rfl rfl rfl rfl ((z5G (h:=h) (p:=p))) ?_
 refine VSt.go za false [] 200 rfl AllP.n ?_
 refine zm (Vw.kp [6,7,13] [(12,15),(13,16),(14,14)] rfl) ?_
 refine z0Z 10 [10,12,13,14] rfl rfl rfl rfl rfl
  (z4r hz hO [12,13,14] (fun q X=>X=prX (zcz h p q) q) (fun _ _=>False)
   (fun i hi=>by show bk [(12,_),(13,_),(14,_)] i=none;rw [zB,if_neg (by omega),zB,if_neg (by omega),zB,if_neg (by omega)];rfl) rfl rfl ?_) (fun a L' ha=>?_)
 ·rintro q row g lpi X hq hn hg rfl
  have hql:q<(zC h p).length:=(List.getElem?_eq_some_iff.1 hq).1
  have hb7:=z3C hO p
  have hbq:=zaT (p:=p) hO q
  have hil:(y7 h p row).length=row.length:=by unfold y7;rw [List.length_map,z0w]
  have hnl:=zi6 (y7 h p row)
  unfold zkr z6v
  refine zf za false [] 200 rfl AllP.n ?_
  refine ⟨rfl,_,rfl,?_⟩
  refine zf za false [] 200 rfl (AllP.c (by unfold inR;(try simp only [ym]);omega) AllP.n) ?_
  refine zjH (ti:=9) ((y7 h p row).length - 1) 1 14 [6,7,8] (fun k=>zeQ (z9T (zcz h p q) ((z5b (y7 h p row)).take k))) (fun _=>True) rfl rfl rfl trivial (fun k hk _=>?_)
  refine zf za false [] 200 rfl AllP.n ?_
  refine VSt.cond rfl (fun g1=>?_) (fun g1=>?_)
  ·have g1:1+k<(zL h.st p).length:=nlt (k:=1+k) g1
   have hid:∀ i,i<row.length→(y7 h p row).getD i 0=(g i).id:=fun i hi=>by
    rw [hg i hi]
    unfold y7
    rw [zx (show i<((zT (zL h.st p) row).map (·.id)).length by rw [List.length_map,z0w];exact hi),List.getElem_map]
    unfold zg
    rw [zx]
   have hx:(z5b (y7 h p row))[k]? = some ((g k).id,(g (1+k)).id):=by
    rw [zp9 (by omega),hid k (by omega),hid (k+1) (by omega),Nat.add_comm k 1]
   have hbk:=zdW (l:=(z5b (y7 h p row)).take k) hbq
   have hlk:((z5b (y7 h p row)).take k).length≤k:=List.length_take_le _ _
   have hgb:=ziL hbk ((g k).id,(g (1+k)).id)
   have hin:inR (z3N (z9T (zcz h p q) ((z5b (y7 h p row)).take k)) ((g k).id,(g (1+k)).id)+1):=by
    unfold inR
    simp only [ym] at hgb
    omega
   have hlt1:k<(zL h.st p).length:=by omega
   rw [show z9T (zcz h p q) ((z5b (y7 h p row)).take (k+1))=zg9 (z9T (zcz h p q) ((z5b (y7 h p row)).take k)) ((g k).id,(g (1+k)).id) from zld hx]
   generalize z9T (zcz h p q) ((z5b (y7 h p row)).take k)=c at *
   refine zf za false [27] 200 rfl (AllP.c (by unfold inR;(try simp only [ym]);omega) AllP.n) ?_
   refine z0h 26 (nv k) rfl (z1X (by simp only [ym];omega)) ?_
   refine zf za false [36] 200 rfl (AllP.c ‹_› (AllP.c rfl (AllP.c (by omega) (AllP.c rfl (AllP.c ‹_› (AllP.c rfl (AllP.c (by omega) (AllP.c rfl AllP.n)))))))) ?_
   refine z0h 35 (.agg [iv (g k).id,iv (g (1+k)).id]) rfl (show AImp (.agg [iv (g (0+k)).id,iv (g (0+(1+k))).id]) _ from z02 (by rw [Nat.zero_add,Nat.zero_add])) ?_
   refine zod rfl rfl (zic (a:=(g k).id) (b:=(g (1+k)).id) (c:=c) rfl rfl rfl) ?_
   refine zf za false [38] 200 rfl (AllP.c ‹_› AllP.n) ?_
   refine zgu (a:=(g k).id) (b:=(g (1+k)).id) (c:=c) 14 rfl rfl rfl (by
    repeat refine znq rfl ?_
    exact zlV (v:=zeQ c) rfl rfl rfl) rfl rfl rfl rfl ?_
   refine zf za false [] 1 rfl (by (repeat (first | exact AllP.n | refine AllP.c (by first | assumption | rfl | omega | exact yn _ | (show 0<_;omega) | (show 1<_;omega) | (show 2<_;omega) | (show 3<_;omega) | (intro _ _;rfl) | (intro q hq;match q,hq with | 0,_=>rfl) | (unfold inR;(try simp only [ym]);omega)) ?_))) ?_
   refine zgt (n:=z3N c ((g k).id,(g (1+k)).id)+1) (q:=zkY c ((g k).id,(g (1+k)).id)) (c:=zfv c ((g k).id,(g (1+k)).id)) 14 rfl rfl rfl rfl rfl rfl rfl rfl (zpZ c _) ?_
   refine zf za false [] 200 rfl (AllP.c (by unfold inR;(try simp only [ym]);omega) AllP.n) ?_
   refine ⟨by omega,?_,trivial⟩
   (refine Vw.sub' (z97 (by repeat (first | exact z0u | refine z0G rfl ?_))))
  ·have g1:¬ 1+k<(zL h.st p).length:=Nat.not_lt.2 (nge (k:=1+k) g1)
   have e:(z5b (y7 h p row)).take k=z5b (y7 h p row):=List.take_of_length_le (by omega)
   rw [e,←zcy hq]
   refine zf za false [] 200 rfl AllP.n ?_
   exact .inl ⟨rfl,[],_,Vw.sub' (z97 z0u),rfl⟩
 ·rcases ha with ⟨lp,g1,X,rfl,rfl,rfl⟩ | ⟨lp,g1,X,e,G3,he,rfl,rfl,hJ⟩
  refine ⟨_,_,_,.normal,_,_,_,_,rfl,rfl,rfl,?_⟩
  refine zf za false [] 1 rfl (by (repeat (first | exact AllP.n | refine AllP.c (by first | assumption | rfl | omega | exact yn _ | (show 0<_;omega) | (show 1<_;omega) | (show 2<_;omega) | (show 3<_;omega) | (intro _ _;rfl) | (intro q hq;match q,hq with | 0,_=>rfl) | (unfold inR;(try simp only [ym]);omega)) ?_))) ?_
  refine zm (zP (ps:=[(1,12),(2,13),(0,14)]) (F0:=[(6,.ref 1 0),(7,.ref 2 0)]) (L0:=[(1,.cells [.map 0] 82),(2,.cells [nv (zC h p).length] 3),(0,zeQ (zcz h p (zC h p).length))]) ⟨rfl,rfl,(by repeat (first | exact zw | refine zq rfl rfl rfl ?_)),_,rfl,⟨rfl,BImp.refl _,rfl,BImp.refl _,rfl,BImp.refl _,trivial⟩⟩) ?_
  refine VSt.go za false [] 200 rfl AllP.n ?_
  exact ⟨rfl,_,rfl,rfl,rfl⟩
section
variable {E:Env} {N:Nat} {st:List Nat} {rd:Option Nat} {Q:zM} {F:VK} {L:VS}
def zq1 (E:Env) (F:VK) (L:VS) (o:Op) (a:AV):Prop:=∀ T S Z j,SR E S Z j L→FRR E S Z j F T→S.low≤S.size→∃ v S' Z' n,(∀ k,n≤k→zV E (Proofs.YtdpipdniklognaaGreat.run E k).call (Proofs.YtdpipdniklognaaGreat.run E k).code T S o=some (v,S'))∧SR E S' Z' j L∧ZLe E S Z S' Z'∧Ex S Z j S' Z' j∧S'.low≤S'.size∧S'.low=S.low∧VR E S' Z' j a v
theorem zjF {ops:Array Oper} {o:Oper} {rest:List Oper} {K:List KI} {a:AV} (hg:vgl ops F o.guard=some true) (hd:zJ o.dst N=true) (hv:zq1 E F L o.op a) (h:VSt.H E N st rd Q (.ops ops rest K (zN o.dst a F) L)):VSt.H E N st rd Q (.ops ops (o::rest) K F L):=by
 intro T S Z j h1 h2 h3 h4
 obtain ⟨u,S',Z',n0,h5,a1,a2,a3,a4,_,h6⟩:=hv T S Z j h2 h3 h4
 obtain ⟨T',h7,h8,h9⟩:=z0F h1 (h3.mono' a2 fun _ _ h=>h) hd h6
 have s1:∀ m,n0≤m→zu E (Proofs.YtdpipdniklognaaGreat.run E m).call (Proofs.YtdpipdniklognaaGreat.run E m).code ops o T S=some (T',S'):=fun m hm=>by
  unfold zu
  rw [z1n (z1m hg) h3]
  show ob (zV E _ _ T S o.op) (z3M T o.dst)=_
  rw [h5 m hm]
  show ob (T.put o.dst u) _=_
  rw [h7];rfl
 obtain ⟨n,r,q1,F2,L2,Z2,j2,q2,q3⟩:=h T' S' Z' j h8 a1 h9 a4
 refine ⟨n0+n,r,fun m hm=>?_,F2,L2,Z2,j2,⟨q2.n,q2.sr,q2.fr,a3.trans q2.ex,q2.low,q2.stay⟩,q3⟩
 show ob (zu E _ _ ops o T S) _=_
 rw [s1 m (by omega)]
 exact q1 m (by omega)
end
def atC (c:yf) (n:Int):List (Int×Int):=z3Z ((c.filter fun x=>decide (n≤x.2)).map (·.1))
def zd7 (l:List (Int×Int)):List Sew:=l.map fun x=>⟨x.1,x.2⟩
theorem zfc:∀ {l:List (Int×Int)} {k:Nat},k<l.length→cut (z1S l) (0+k*2) 2=some (z9f (l.getD k (0,0)))
 | [],k,h=>absurd h (Nat.not_lt_zero k)
 | x::l,k,h=>by
  have hl:(z1S (x::l)).length=(l.length+1)*2:=z4d _
  have h:k<l.length+1:=h
  rw [z0C (by rw [hl];omega)]
  cases k with
  | zero=>rfl
  | succ k =>
   have ih:=zfc (l:=l) (k:=k) (by omega)
   rw [z0C (by rw [z4d];omega)] at ih
   have e:z1S (x::l)=Value.int .i64 x.1::Value.int .i64 x.2::z1S l:=rfl
   rw [e,show 0+(k+1)*2=0+k*2+1+1 by omega,List.drop_succ_cons,List.drop_succ_cons]
   exact ih
theorem zmH {l:List (Int×Int)} {k:Nat} (h:k<l.length):zD (zd7 l) k=⟨(l.getD k (0,0)).1,(l.getD k (0,0)).2⟩:=by
 unfold zD zd7
 rw [zx (show k<(l.map fun x=>(⟨x.1,x.2⟩:Sew)).length by rw [List.length_map];exact h),List.getElem_map,zx h]
theorem zjw {F:VK} {L:VS} {cl:Call} {f:Operand} {i m:Nat} {n:Int} {c:yf} (hc:cl.callee = .value f) (hf:av F f=some (.fn 63 [] [])) (ha:avs F cl.args.toList=some [.map i,iv n]) (hb:bk L i=some (zeQ c)) (hB:Bnd c m) (hm:m≤1000000):zq1 (sE r) F L (.call cl) (.p (eLW (zd7 (atC c n)))):=by
 intro T S Z j hS hF hl
 obtain ⟨v,k1,k2⟩:=hF.ev hf
 obtain ⟨vs,k3,k4⟩:=hF.evs ha
 cases k2 with
 | fn q1 q2 =>
  rename_i fa ca
  have e1:fa.toList=[]:=by
   generalize fa.toList=l at q1
   cases q1;rfl
  have e2:ca.toList=[]:=by
   generalize ca.toList=l at q2
   cases q2;rfl
  cases k4 with
  | cons h1 hl1=>cases hl1 with
   | cons h2 hl2 =>
    cases hl2
    cases h1 with
    | map hj =>
     rename_i X
     cases h2 with
     | p h2 =>
      cases h2
      have hmb:=zay hS hb hj
      have hall:((z5T c).all fun p=>z5e p.1&&z7g p.2)=true:=by
       rw [List.all_eq_true]
       intro q hq
       obtain ⟨x,_,rfl⟩:=List.mem_map.1 hq
       rfl
      have hlen:Nat.ble (z5T c).length 1000000=true:=z3i (by unfold z5T;rw [List.length_map];exact yo hB.2 hm)
      have hL:z3Z (((z5T c).filter fun p=>decide (n≤z7s p.2)).map fun p=>z3T p.1)=atC c n:=by
       unfold atC z5T
       rw [List.filter_map,List.map_map];rfl
      have key:∀ k,(Proofs.YtdpipdniklognaaGreat.run (sE r) (k+1)).call 63 [.map (some X),.int .i64 n] S=bf (Nat.beq (atC c n).length 0) (some (.slice none 0 0,S)) (some (.slice (some ⟨S.size,0,some 0⟩) (atC c n).length (atC c n).length,S.new (.cells (z1S (atC c n)) 58))):=fun k=>by
       have hh:z2A (sE r) 63 [.map (some X),.int .i64 n]=false:=by
        obtain ⟨t,q⟩:=r
        cases q <;> rfl
       show bf (z2A (sE r) 63 [.map (some X),.int .i64 n]) _ _=_
       rw [hh]
       show ob (ob (ob (S.heap.get X) z8s) fun es=>gd ((es.all fun p=>z5e p.1&&z7g p.2)&&Nat.ble es.length 1000000) (some ((z3Z ((es.filter fun p=>decide (n≤z7s p.2)).map fun p=>z3T p.1)).length,z1S (z3Z ((es.filter fun p=>decide (n≤z7s p.2)).map fun p=>z3T p.1)),58))) (fun q=>bf (Nat.beq q.1 0) (some (Value.slice none 0 0,S)) (some (.slice (some ⟨S.size,0,some 0⟩) q.1 q.1,S.new (.cells q.2.1 q.2.2))))=_
       rw [hmb]
       show ob (gd (((z5T c).all fun p=>z5e p.1&&z7g p.2)&&Nat.ble (z5T c).length 1000000) (some ((z3Z (((z5T c).filter fun p=>decide (n≤z7s p.2)).map fun p=>z3T p.1)).length,z1S (z3Z (((z5T c).filter fun p=>decide (n≤z7s p.2)).map fun p=>z3T p.1)),58))) _=_
       rw [hall,hlen,hL];rfl
      have hev:∀ k,1≤k→zV (sE r) (Proofs.YtdpipdniklognaaGreat.run (sE r) k).call (Proofs.YtdpipdniklognaaGreat.run (sE r) k).code T S (.call cl)=(Proofs.YtdpipdniklognaaGreat.run (sE r) k).call 63 [.map (some X),.int .i64 n] S:=fun k hk=>by
       show ob (T.evs cl.args.toList) _=_
       rw [k3,hc]
       show ob (T.ev f) _=_
       rw [k1]
       show (Proofs.YtdpipdniklognaaGreat.run (sE r) k).call _ (fa.toList++([_,_]++ca.toList)) S=_
       rw [e1,e2];rfl
      generalize hl0:atC c n=l at *
      cases l with
      | nil =>
       refine ⟨.slice none 0 0,S,Z,1,fun k hk=>?_,hS,ZLe.refl S Z,Ex.refl _ _ _,hl,rfl,.p (.nil _ _)⟩
       obtain ⟨k,rfl,_⟩:=zh hk
       rw [hev _ hk,key];rfl
      | cons x l =>
       refine ⟨.slice (some ⟨S.size,0,some 0⟩) (x::l).length (x::l).length,S.new (.cells (z1S (x::l)) 58),ZN S Z,1,fun k hk=>?_,hS.newZ (.cells (z1S (x::l)) 58),z7A hS _,Ex.newZ _,Nat.le_succ_of_le hl,rfl,?_⟩
       ·obtain ⟨k,rfl,_⟩:=zh hk
        rw [hev _ hk,key];rfl
       ·have hrom:(sE r).rom.get S.size=none:=by
         cases hr:(sE r).rom.get S.size with
         | none=>rfl
         | some q=>exact absurd (hS.rom _ _ hr).1 (Nat.lt_irrefl _)
        have hsl:(zd7 (x::l)).length=(x::l).length:=List.length_map _
        show VR (sE r) _ _ _ (.p (.lst 58 false (zd7 (x::l)).length (fW (zd7 (x::l))))) _
        rw [hsl]
        refine .p (.lst (sz:=2) (fun k=>z9f ((x::l).getD k (0,0))) (.inr rfl) ?_ (yn _) (yw _) (.inr ⟨rfl,hrom⟩) (fun k hk=>zfc hk) (fun k hk=>?_))
        ·unfold rdc
         rw [hrom]
         exact z0a
        ·show PRs _ _ _ (zdR (zD (zd7 (x::l)) k)) _
         rw [zmH hk]
         exact .cons (.int _ _) (.cons (.int _ _) .nil)
noncomputable def zgF (h:Hp) (p:Int):yf:=zcz h p (zC h p).length
theorem zaU {h:Hp} {p:Int} (hO:OkH h):Bnd (zgF h p) 1000000:=by
 have h1:=zaT (p:=p) hO (zC h p).length
 have h2:=zeG hO p
 exact ⟨fun x hx=>⟨(h1.1 x hx).1,Int.le_trans (h1.1 x hx).2 (by simp only [ym];omega)⟩,by have:=h1.2;unfold zgF;omega⟩
theorem zfu {h:Hp} {p:Int} (hz:SzH h) (e:¬ z98 h p=0):VP (sE r) 62 [.agg ((eHp h).map .p),iv p] (.tup [.p .nilm,iv 0,iv (z98 h p)]):=by
 have hc:=z2U (r:=r) (p:=p) hz
 rcases z5D h p with ⟨hO,e1⟩ | e1
 rotate_left
 ·rw [(zhS (zdd e1)).1]
  refine VP.of (fn:=Tryz.f62) za (zK rfl) (by kernel_rfl) rfl rfl rfl ?_
  refine VSt.go za false [] 200 rfl AllP.n ?_
  refine zb (zk 0 (eHp h) rfl rfl) ?_
  refine VSt.pc rfl rfl rfl rfl rfl rfl rfl rfl (hc) ?_
  refine VSt.go za false [] 200 rfl AllP.n ?_
  refine VSt.cond rfl (fun _=>?_) (fun q=>absurd (q.symm.trans e1) (by decide))
  refine VSt.go za false [] 200 rfl AllP.n ?_
  exact EndsP.mk rfl rfl rfl rfl
 have hl:(zC h p).length=0:=by
  refine Nat.eq_zero_of_not_pos fun g=>e ?_
  unfold z98;rw [if_pos e1,if_pos g]
 rw [show z98 h p=55 by unfold z98;rw [if_pos e1,if_neg (by omega)]]
 rw [e1] at hc
 have hpr:=zeF (r:=r) (p:=p) hz hO
 rw [hl] at hpr
 refine VP.of (fn:=Tryz.f62) za (zK rfl) (by kernel_rfl) rfl rfl rfl ?_
 refine VSt.go za false [] 200 rfl AllP.n ?_
 refine zb (zk 0 (eHp h) rfl rfl) ?_
 refine VSt.pc rfl rfl rfl rfl rfl rfl rfl rfl (hc) ?_
 refine VSt.go za false [] 200 rfl AllP.n ?_
 refine VSt.cond rfl (fun q=>absurd q (by decide)) (fun _=>?_)
 refine VSt.go za false [] 200 rfl AllP.n ?_
 refine VSt.cc [] rfl rfl rfl rfl rfl rfl rfl rfl rfl rfl rfl hpr ?_
 rintro a L' ⟨rfl,rfl⟩
 refine VSt.go za false [] 200 rfl AllP.n ?_
 refine VSt.cond rfl (fun _=>?_) (fun q=>absurd q (by decide))
 refine VSt.go za false [] 200 rfl AllP.n ?_
 exact EndsP.mk rfl rfl rfl rfl
theorem zft {h:Hp} {p:Int} (hz:SzH h) (hO:OkH h) (e1:ppE h p=0) (hl:0<(zC h p).length):VC (sE r) [] 62 [.agg ((eHp h).map .p),iv p] [] (fun a L'=>a = .tup [.map 0,nv (zC h p).length,iv 0]∧L'=[(0,zeQ (zgF h p))]):=by
 have hc:=z2U (r:=r) (p:=p) hz
 rw [e1] at hc
 have hpr:=zeF (r:=r) (p:=p) hz hO
 refine z6f (fn:=Tryz.f62) za (zK rfl) (by kernel_rfl) rfl rfl ?_
 refine VSt.go za false [10] 200 rfl AllP.n ?_
 refine zb (zk 0 (eHp h) rfl rfl) ?_
 refine VSt.go za false [] 200 rfl AllP.n ?_
 refine VSt.pc rfl rfl rfl rfl rfl rfl rfl rfl (hc) ?_
 refine VSt.go za false [] 200 rfl AllP.n ?_
 refine VSt.cond rfl (fun q=>absurd q (by decide)) (fun _=>?_)
 refine VSt.go za false [] 200 rfl AllP.n ?_
 refine VSt.cc [] rfl rfl rfl rfl rfl rfl rfl rfl rfl rfl rfl hpr ?_
 rintro a L' ⟨rfl,rfl⟩
 refine VSt.go za false [] 200 rfl AllP.n ?_
 refine VSt.cond rfl (fun q=>?_) (fun _=>?_)
 ·have q:(Int.ofNat (zC h p).length==0)=true:=q
  have:=eq_of_beq q
  simp only [ym] at this
  omega
 refine VSt.go za false [24] 200 rfl AllP.n ?_
 refine zb (Vw.kp [8,9] [(0,0)] rfl) ?_
 refine VSt.go za false [] 200 rfl AllP.n ?_
 exact ⟨rfl,_,rfl,rfl,rfl⟩
noncomputable def zmC (h:Hp) (p:Int):List (Int×Int):=atC (zgF h p) (Int.ofNat (zC h p).length)
noncomputable def znn (h:Hp) (p:Int):List (Int×Int):=atC (zgF h p) 1
noncomputable def zgC (h:Hp) (p:Int):List Sew:=if z98 h p=0 then zd7 (zmC h p) else []
noncomputable def zgD (h:Hp) (p:Int):List Sew:=if z98 h p=0 then zd7 (znn h p) else []
theorem zeH {h:Hp} {p:Int} (e:z98 h p=0):OkH h∧ppE h p=0∧0<(zC h p).length:=by
 rcases z5D h p with ⟨hO,e1⟩ | e1
 ·refine ⟨hO,e1,Nat.pos_of_ne_zero fun g=>?_⟩
  unfold z98 at e
  rw [if_pos e1,if_neg (by omega)] at e
  exact absurd e (by decide)
 ·rw [(zhS (zdd e1)).1] at e
  exact absurd e (zdd e1)
theorem zjJ {h:Hp} {p:Int} (hz:SzH h):VP (sE r) 12 [.agg ((eHp h).map .p),iv p] (.tup [.p (eLW (zgC h p)),iv (z98 h p)]):=by
 by_cases e:z98 h p=0
 ·obtain ⟨hO,e1,hl⟩:=zeH e
  rw [show zgC h p=zd7 (zmC h p) from if_pos e,e]
  refine VP.of (fn:=Tryz.f12) za (zK rfl) (by kernel_rfl) rfl rfl rfl ?_
  refine VSt.go za false [] 200 rfl AllP.n ?_
  refine zb (zk 0 (eHp h) rfl rfl) ?_
  refine VSt.cc [] rfl rfl rfl rfl rfl rfl rfl rfl rfl rfl rfl (zft (r:=r) (p:=p) hz hO e1 hl) ?_
  rintro a L' ⟨rfl,rfl⟩
  refine VSt.go za false [] 200 rfl AllP.n ?_
  refine VSt.cond rfl (fun q=>absurd q (by decide)) (fun _=>?_)
  refine VSt.go za false [] 200 rfl AllP.n ?_
  refine zjF rfl rfl (zjw (c:=zgF h p) (m:=1000000) (n:=Int.ofNat (zC h p).length) rfl rfl rfl rfl (zaU hO) (yn _)) ?_
  refine VSt.go za false [] 200 rfl AllP.n ?_
  exact EndsP.mk rfl rfl rfl rfl
 ·have hno:=zfu (r:=r) (p:=p) hz e
  have q0:(!(z98 h p==0))=true:=by
   rw [show (z98 h p==0)=false by rw [←Bool.not_eq_true,beq_iff_eq];exact e];rfl
  rw [show zgC h p=[] from if_neg e]
  refine VP.of (fn:=Tryz.f12) za (zK rfl) (by kernel_rfl) rfl rfl rfl ?_
  refine VSt.go za false [] 200 rfl AllP.n ?_
  refine zb (zk 0 (eHp h) rfl rfl) ?_
  refine VSt.pc rfl rfl rfl rfl rfl rfl rfl rfl (hno) ?_
  refine VSt.go za false [] 200 rfl AllP.n ?_
  refine VSt.cond rfl (fun _=>?_) (fun q=>absurd (q.symm.trans q0) (by decide))
  refine VSt.go za false [] 200 rfl AllP.n ?_
  exact ⟨rfl,_,rfl,rfl,AImp.tup ⟨AImp.nil,AImp.refl _,trivial⟩⟩
theorem zmk {h:Hp} {p:Int} (hz:SzH h):VP (sE r) 14 [.agg ((eHp h).map .p),iv p] (.tup [.p (eLW (zgD h p)),iv (z98 h p)]):=by
 by_cases e:z98 h p=0
 ·obtain ⟨hO,e1,hl⟩:=zeH e
  rw [show zgD h p=zd7 (znn h p) from if_pos e,e]
  refine VP.of (fn:=Tryz.f14) za (zK rfl) (by kernel_rfl) rfl rfl rfl ?_
  refine VSt.go za false [] 200 rfl AllP.n ?_
  refine zb (zk 0 (eHp h) rfl rfl) ?_
  refine VSt.cc [] rfl rfl rfl rfl rfl rfl rfl rfl rfl rfl rfl (zft (r:=r) (p:=p) hz hO e1 hl) ?_
  rintro a L' ⟨rfl,rfl⟩
  refine VSt.go za false [] 200 rfl AllP.n ?_
  refine VSt.cond rfl (fun q=>absurd q (by decide)) (fun _=>?_)
  refine VSt.go za false [] 200 rfl AllP.n ?_
  refine zjF rfl rfl (zjw (c:=zgF h p) (m:=1000000) (n:=1) rfl rfl rfl rfl (zaU hO) (yn _)) ?_
  refine VSt.go za false [] 200 rfl AllP.n ?_
  exact EndsP.mk rfl rfl rfl rfl
 ·have hno:=zfu (r:=r) (p:=p) hz e
  have q0:(!(z98 h p==0))=true:=by
   rw [show (z98 h p==0)=false by rw [←Bool.not_eq_true,beq_iff_eq];exact e];rfl
  rw [show zgD h p=[] from if_neg e]
  refine VP.of (fn:=Tryz.f14) za (zK rfl) (by kernel_rfl) rfl rfl rfl ?_
  refine VSt.go za false [] 200 rfl AllP.n ?_
  refine zb (zk 0 (eHp h) rfl rfl) ?_
  refine VSt.pc rfl rfl rfl rfl rfl rfl rfl rfl (hno) ?_
  refine VSt.go za false [] 200 rfl AllP.n ?_
  refine VSt.cond rfl (fun _=>?_) (fun q=>absurd (q.symm.trans q0) (by decide))
  refine VSt.go za false [] 200 rfl AllP.n ?_
  exact ⟨rfl,_,rfl,rfl,AImp.tup ⟨AImp.nil,AImp.refl _,trivial⟩⟩
end
section
theorem zf9 {l:List Sht} {w a:Nat}:∀ j,zgb l w a j=true ↔ ∃ i,i<j∧zdK (zg l (a+i)) w=false
 | 0=>⟨fun h=>(by cases h),fun ⟨i,hi,_⟩=>absurd hi (Nat.not_lt_zero i)⟩
 | j+1=>by
  show (zgb l w a j || !zdK (zg l (a+j)) w)=true ↔ _
  rw [Bool.or_eq_true,zf9 j,Bool.not_eq_true']
  constructor
  ·rintro (⟨i,h1,h2⟩ | h)
   ·exact ⟨i,by omega,h2⟩
   ·exact ⟨j,Nat.lt_succ_self j,h⟩
  ·rintro ⟨i,h1,h2⟩
   by_cases c:i=j
   ·subst c;exact .inr h2
   ·exact .inl ⟨i,by omega,h2⟩
theorem zdZ {l:List Sht} {w:Nat}:brB l w=true ↔ ∃ i j k,i≤j∧j≤k∧k<l.length∧z6I (zg l i) w=true∧zdK (zg l j) w=false∧z6I (zg l k) w=true:=by
 unfold brB
 rcases zmF l w l.length with ⟨h1,h2,h3⟩ | ⟨a,b,h1,h2,h3,h4,h5,h6,h7,h8⟩
 ·rw [h1]
  refine ⟨fun h=>(by cases h),fun ⟨i,j,k,hij,hjk,hk,hi,_⟩=>?_⟩
  rw [h3 i (by omega)] at hi;cases hi
 ·rw [h1,h2,decide_eq_true (show (0:Int)≤Int.ofNat a by simp only [ym];omega),Bool.true_and,zf9]
  show (∃ i,i<b+1 - a∧zdK (zg l (a+i)) w=false) ↔ _
  constructor
  ·rintro ⟨i,hi,h⟩
   exact ⟨a,a+i,b,by omega,by omega,h4,h5,h,h6⟩
  ·rintro ⟨i,j,k,hij,hjk,hk,hi,hj,hk2⟩
   have hai:a≤i:=Nat.le_of_not_lt fun c=>by rw [h7 i c] at hi;cases hi
   have hkb:k≤b:=Nat.le_of_not_lt fun c=>by rw [h8 k c hk] at hk2;cases hk2
   exact ⟨j - a,by omega,by rw [show a+(j - a)=j by omega];exact hj⟩
theorem zdY (l:List Sht) (w:Nat):∀ n,(y9 l n).testBit w=(decide (w<n)&&brB l w)
 | 0=>by show (0:Nat).testBit w=_;rw [Nat.zero_testBit,decide_eq_false (Nat.not_lt_zero w)];rfl
 | n+1=>by
  have ih:=zdY l w n
  show (bif brB l n then y9 l n ||| 1 <<< n else y9 l n).testBit w=_
  by_cases c:w=n
  ·subst c
   rw [decide_eq_true (Nat.lt_succ_self w),Bool.true_and]
   rw [decide_eq_false (Nat.lt_irrefl w),Bool.false_and] at ih
   cases hb:brB l w with
   | true=>rw [cond_true,Nat.testBit_or,Nat.one_shiftLeft,Nat.testBit_two_pow,decide_eq_true rfl,Bool.or_true]
   | false=>exact ih
  ·have e:decide (w<n+1)=decide (w<n):=by rw [Bool.eq_iff_iff,decide_eq_true_iff,decide_eq_true_iff];omega
   rw [e,←ih]
   cases brB l n with
   | true=>rw [cond_true,Nat.testBit_or,Nat.one_shiftLeft,Nat.testBit_two_pow,decide_eq_false (fun h=>c h.symm),Bool.or_false]
   | false=>rfl
theorem zb0 {l:List Sht}:y9 l 12=0 ↔ ∀ w,w<12→brB l w=false:=by
 constructor
 ·intro h w hw
  have:=zdY l w 12
  rw [h,Nat.zero_testBit,decide_eq_true hw,Bool.true_and] at this
  exact this.symm
 ·intro h
  refine Nat.eq_of_testBit_eq fun w=>?_
  rw [zdY,Nat.zero_testBit]
  by_cases c:w<12
  ·rw [h w c,Bool.and_false]
  ·rw [decide_eq_false c];rfl
def z4K (h:Hp) (l:List Sht):List Nat→Prop
 | []=>True
 | a::t=>z4K h l t∧a<l.length∧okR h l t a=true
theorem zaL {h:Hp} {l:List Sht}:∀ f {row0 row:List Nat},z4K h l row0→(row∈z5q h l f row0 ↔ z4K h l row∧∃ pre,row=pre++row0∧pre.length=f)
 | 0,row0,row,h0=>by
  show row∈[row0] ↔ _
  rw [List.mem_singleton]
  constructor
  ·rintro rfl;exact ⟨h0,[],rfl,rfl⟩
  ·rintro ⟨_,pre,e,hp⟩
   rw [e,List.length_eq_zero_iff.1 hp];rfl
 | f+1,row0,row,h0=>by
  show row∈((List.range l.length).flatMap fun i=>bif okR h l row0 i then z5q h l f (i::row0) else []) ↔ _
  rw [List.mem_flatMap]
  constructor
  ·rintro ⟨i,hi,hx⟩
   cases hk:okR h l row0 i with
   | false=>rw [hk] at hx;cases hx
   | true =>
    rw [hk] at hx
    obtain ⟨h1,pre,e,hp⟩:=(zaL f (row0:=i::row0) ⟨h0,List.mem_range.1 hi,hk⟩).1 hx
    exact ⟨h1,pre++[i],by rw [e,List.append_assoc];rfl,by rw [List.length_append,hp];rfl⟩
  ·rintro ⟨h1,pre,e,hp⟩
   have hne:pre≠[]:=fun g=>by rw [g] at hp;cases hp
   have hpl:=List.dropLast_concat_getLast hne
   have hok:∀ {t s:List Nat},z4K h l (t++s)→z4K h l s:=fun {t s} g=>by
    induction t with
    | nil=>exact g
    | cons a t ih=>exact ih g.1
   have e2:row=pre.dropLast++(pre.getLast hne::row0):=by
    rw [e]
    conv=>lhs;rw [←hpl]
    rw [List.append_assoc];rfl
   have h2:z4K h l (pre.getLast hne::row0):=hok (e2 ▸ h1)
   refine ⟨pre.getLast hne,List.mem_range.2 h2.2.1,?_⟩
   rw [h2.2.2]
   exact (zaL f h2).2 ⟨h1,pre.dropLast,e2,by rw [List.length_dropLast,hp];rfl⟩
theorem rows_iff {h:Hp} {l:List Sht} {row:List Nat}:row∈z7v h l ↔ z4K h l row∧row.length=l.length:=by
 unfold z7v
 rw [zaL l.length (row0:=[]) trivial]
 constructor
 ·rintro ⟨h1,pre,e,hp⟩
  rw [List.append_nil] at e
  exact ⟨h1,by rw [e];exact hp⟩
 ·rintro ⟨h1,h2⟩
  exact ⟨h1,row,(List.append_nil _).symm,h2⟩
theorem z96 {h:Hp} {l:List Sht}:∀ {row:List Nat},z4K h l row→row.Nodup
 | [],_=>List.nodup_nil
 | a::t,g=>by
  rw [List.nodup_cons]
  refine ⟨fun hm=>?_,z96 g.1⟩
  have:=g.2.2
  rw [z8p (List.contains_iff_mem.2 hm)] at this;cases this
theorem z9W {h:Hp} {l:List Sht}:∀ {row:List Nat},z4K h l row→∀ i∈row,i<l.length
 | [],_,i,hi=>by cases hi
 | a::t,g,i,hi=>by
  rcases List.mem_cons.1 hi with rfl | hi
  ·exact g.2.1
  ·exact z9W g.1 i hi
theorem zci {h:Hp} {l:List Sht}:∀ f {row0:List Nat},z4K h l row0→(z5q h l f row0).Nodup
 | 0,row0,_=>by show [row0].Nodup;rw [List.nodup_cons];exact ⟨List.not_mem_nil,List.nodup_nil⟩
 | f+1,row0,h0=>by
  show ((List.range l.length).flatMap fun i=>bif okR h l row0 i then z5q h l f (i::row0) else []).Nodup
  rw [List.nodup_iff_pairwise_ne,List.pairwise_flatMap]
  refine ⟨fun i hi=>?_,(List.pairwise_lt_range (n:=l.length)).imp_of_mem fun {i k} hi hk hik x hx y hy e=>?_⟩
  ·cases hk:okR h l row0 i with
   | false=>exact List.Pairwise.nil
   | true =>
    have:=zci f (row0:=i::row0) ⟨h0,List.mem_range.1 hi,hk⟩
    rw [List.nodup_iff_pairwise_ne] at this;exact this
  ·subst e
   have last:∀ i,x∈(bif okR h l row0 i then z5q h l f (i::row0) else [])→i<l.length→∃ pre,x=pre++i::row0∧pre.length=f:=fun i hx hi=>by
    cases hk:okR h l row0 i with
    | false=>rw [hk] at hx;cases hx
    | true =>
     rw [hk] at hx
     exact ((zaL f (row0:=i::row0) ⟨h0,hi,hk⟩).1 hx).2
   obtain ⟨p1,a1,a2⟩:=last i hx (List.mem_range.1 hi)
   obtain ⟨p2,b1,b2⟩:=last k hy (List.mem_range.1 hk)
   rw [a1] at b1
   have:=(List.append_inj b1 (by rw [a2,b2])).2
   have:=(List.cons.inj this).1
   omega
def Nd (c:yf):Prop:=(c.map (·.1)).Nodup
theorem zni {c:yf} (h:Nd c) {i j:Nat} {x y:(Int×Int)×Int} (hi:c[i]? = some x) (hj:c[j]? = some y) (e:x.1=y.1):i=j:=by
 obtain ⟨hi1,hi2⟩:=List.getElem?_eq_some_iff.1 hi
 obtain ⟨hj1,hj2⟩:=List.getElem?_eq_some_iff.1 hj
 refine (List.getElem_inj (h₀ :=by rw [List.length_map];exact hi1) (h₁ :=by rw [List.length_map];exact hj1) h).1 ?_
 rw [List.getElem_map,List.getElem_map,hi2,hj2,e]
theorem get_mem {c:yf} (h:Nd c) {y:Int×Int} {v:Int} (hm:(y,v)∈c):z3N c y=v:=by
 unfold z3N
 cases hp:z4Z y c 0 with
 | none=>exact absurd rfl (zan hp _ hm)
 | some q =>
  obtain ⟨i,hi⟩:=List.mem_iff_getElem?.1 hm
  have h1:=z8l hp
  have:=zni h h1 hi rfl
  rw [this,hi] at h1
  have h1:=Option.some.inj h1
  show q.2=v
  exact (congrArg Prod.snd h1).symm
theorem z8r {c:yf} {y:Int×Int} (hne:z3N c y≠0):(y,z3N c y)∈c:=by
 unfold z3N at hne ⊢
 cases hp:z4Z y c 0 with
 | none=>rw [hp] at hne;exact absurd rfl hne
 | some q=>exact List.mem_of_getElem? (z8l hp)
theorem zf3 {c:yf} {k:Int×Int} {q:Nat×Int} (hp:z4Z k c 0=some q):zg9 c k=c.set q.1 (k,q.2+1)∧z3N c k=q.2:=by
 unfold zg9 zfv zkY z3N
 rw [hp];exact ⟨rfl,rfl⟩
theorem zf4 {c:yf} {k:Int×Int} (hp:z4Z k c 0=none):zg9 c k=c++[(k,1)]∧z3N c k=0:=by
 unfold zg9 zfv zkY z3N
 rw [hp]
 refine ⟨?_,rfl⟩
 show (c++[(k,0)]).set c.length (k,0+1)=_
 rw [List.set_append_right _ _ (yn _),Nat.sub_self];rfl
theorem zix {c:yf} (h:Nd c) (k:Int×Int):Nd (zg9 c k):=by
 unfold Nd at h ⊢
 cases hp:z4Z k c 0 with
 | some q =>
  rw [(zf3 hp).1,List.map_set]
  have h1:=z8l hp
  have:(c.map (·.1)).set q.1 k=c.map (·.1):=by
   refine List.ext_getElem? fun i=>?_
   rw [List.getElem?_set]
   split
   ·rename_i e
    subst e
    rw [List.getElem?_map,h1]
    split
    ·rfl
    ·rename_i hl
     exact absurd (by rw [List.length_map];exact (List.getElem?_eq_some_iff.1 h1).1) hl
   ·rfl
  show ((c.map (·.1)).set q.1 k).Nodup
  rw [this];exact h
 | none =>
  rw [(zf4 hp).1,List.map_append]
  show (c.map (·.1)++[k]).Nodup
  rw [List.nodup_append]
  refine ⟨h,List.nodup_cons.2 ⟨List.not_mem_nil,List.nodup_nil⟩,fun a ha b hb=>?_⟩
  rw [List.mem_singleton.1 hb]
  obtain ⟨x,hx,rfl⟩:=List.mem_map.1 ha
  exact zan hp x hx
theorem znw {c:yf} (h:Nd c) (k y:Int×Int):z3N (zg9 c k) y=z3N c y+(if y=k then 1 else 0):=by
 have hn:=zix h k
 cases hp:z4Z k c 0 with
 | some q =>
  obtain ⟨e1,e2⟩:=zf3 hp
  have h1:=z8l hp
  have hl:=(List.getElem?_eq_some_iff.1 h1).1
  by_cases c1:y=k
  ·subst c1
   rw [if_pos rfl,e2]
   refine get_mem hn ?_
   rw [e1]
   exact List.mem_of_getElem? (i:=q.1) (by rw [List.getElem?_set,if_pos rfl,if_pos hl])
  ·rw [if_neg c1,Int.add_zero]
   by_cases c2:z3N c y=0
   ·rw [c2]
    refine Decidable.byContradiction fun c3=>?_
    have h3:=z8r c3
    rw [e1] at h3
    rcases List.mem_or_eq_of_mem_set (show (y,z3N (c.set q.1 (k,q.2+1)) y)∈c.set q.1 (k,q.2+1) from by rw [←e1] at h3 ⊢;exact h3) with h4 | h4
    ·have:=get_mem h h4
     rw [c2] at this
     rw [e1] at c3
     exact c3 this.symm
    ·exact c1 (congrArg Prod.fst h4)
   ·refine get_mem hn ?_
    have h3:=z8r c2
    obtain ⟨i,hi⟩:=List.mem_iff_getElem?.1 h3
    rw [e1]
    refine List.mem_of_getElem? (i:=i) ?_
    rw [List.getElem?_set,if_neg,hi]
    intro e
    rw [←e,h1] at hi
    exact c1 (congrArg Prod.fst (Option.some.inj hi)).symm
 | none =>
  obtain ⟨e1,e2⟩:=zf4 hp
  by_cases c1:y=k
  ·subst c1
   rw [if_pos rfl,e2]
   refine get_mem hn ?_
   rw [e1];exact List.mem_append.2 (.inr (List.mem_singleton.2 rfl))
  ·rw [if_neg c1,Int.add_zero]
   by_cases c2:z3N c y=0
   ·rw [c2]
    refine Decidable.byContradiction fun c3=>?_
    have h3:=z8r c3
    rw [e1] at h3
    rcases List.mem_append.1 h3 with h4 | h4
    ·have:=get_mem h h4
     rw [c2] at this
     rw [e1] at c3
     exact c3 this.symm
    ·exact c1 (congrArg Prod.fst (List.mem_singleton.1 h4))
   ·refine get_mem hn ?_
    rw [e1];exact List.mem_append.2 (.inl (z8r c2))
theorem zma:∀ {l:List (Int×Int)} {c:yf},Nd c→Nd (z9T c l)
 | [],_,h=>h
 | k::l,c,h=>zma (l:=l) (zix h k)
theorem zj8 {y:Int×Int}:∀ {l:List (Int×Int)} {c:yf},Nd c→z3N (z9T c l) y=z3N c y+Int.ofNat (l.filter (fun x=>decide (y=x))).length
 | [],c,h=>(Int.add_zero _).symm
 | k::l,c,h=>by
  show z3N (z9T (zg9 c k) l) y=_
  rw [zj8 (zix h k),znw h k y]
  by_cases e:y=k
  ·rw [if_pos e,List.filter_cons_of_pos (by rw [decide_eq_true e]),List.length_cons]
   simp only [ym];omega
  ·rw [if_neg e,List.filter_cons_of_neg (by rw [decide_eq_false e];decide),Int.add_zero]
def zjT (y:Int×Int) (rows:List (List Int)):Nat:=(rows.filter fun ids=>(z5b ids).any fun x=>decide (y=x)).length
theorem zi2 {α : Type} [DecidableEq α] {y : α}:∀ {l:List α},l.Nodup→(l.filter fun x=>decide (y=x)).length=if l.any (fun x=>decide (y=x))=true then 1 else 0
 | [],_=>rfl
 | a::l,h=>by
  rw [List.nodup_cons] at h
  have ih:=zi2 (y:=y) h.2
  by_cases e:y=a
  ·subst e
   have h0:(l.any fun x=>decide (y=x))=false:=by
    rw [List.any_eq_false]
    intro x hx
    rw [decide_eq_false];decide
    intro e2;subst e2;exact h.1 hx
   rw [List.filter_cons_of_pos (by rw [decide_eq_true rfl]),List.length_cons,ih,h0,List.any_cons,decide_eq_true rfl,Bool.true_or]
   simp
  ·rw [List.filter_cons_of_neg (by rw [decide_eq_false e];decide),ih,List.any_cons,decide_eq_false e,Bool.false_or]
theorem zbV:∀ {ids:List Int},ids.Nodup→(z5b ids).Nodup
 | [],_=>List.nodup_nil
 | [_],_=>List.nodup_nil
 | a::b::l,h=>by
  rw [List.nodup_cons] at h
  show ((a,b)::z5b (b::l)).Nodup
  rw [List.nodup_cons]
  refine ⟨fun hm=>?_,zbV h.2⟩
  have:∀ {x:Int×Int} {l:List Int},x∈z5b l→x.1∈l:=fun {x l} hx=>by
   unfold z5b at hx
   exact (List.of_mem_zip (show (x.1,x.2)∈l.zip l.tail from hx)).1
  exact h.1 (this hm)
theorem zjb {y:Int×Int}:∀ {rows:List (List Int)} {c:yf},Nd c→(∀ ids∈rows,ids.Nodup)→Nd (rows.foldl (fun c ids=>z9T c (z5b ids)) c)∧z3N (rows.foldl (fun c ids=>z9T c (z5b ids)) c) y=z3N c y+Int.ofNat (zjT y rows)
 | [],c,h,_=>⟨h,(Int.add_zero _).symm⟩
 | ids::rows,c,h,hr=>by
  have h1:=zma (l:=z5b ids) h
  obtain ⟨i1,i2⟩:=zjb (y:=y) (rows:=rows) h1 fun x hx=>hr x (List.mem_cons_of_mem _ hx)
  refine ⟨i1,?_⟩
  show z3N (rows.foldl (fun c ids=>z9T c (z5b ids)) (z9T c (z5b ids))) y=_
  rw [i2,zj8 h,zi2 (zbV (hr ids List.mem_cons_self))]
  unfold zjT
  cases ha:(z5b ids).any fun x=>decide (y=x) with
  | true =>
   rw [if_pos rfl,List.filter_cons_of_pos (by rw [ha]),List.length_cons]
   simp only [ym];omega
  | false =>
   rw [if_neg (by decide),List.filter_cons_of_neg (by rw [ha];decide)]
   simp
def ordI (h:Hp) (p:Int):List (List Int):=(zC h p).map (y7 h p)
theorem zbL {h:Hp} {p:Int} {row:List Nat} (hr:row∈zC h p):z4K h (zL h.st p) row∧row.length=(zL h.st p).length:=rows_iff.1 (List.mem_filter.1 hr).1
theorem zfm {h:Hp} {p:Int} (hO:OkH h) {i j:Nat} (hij:i<j) (hj:j<(zL h.st p).length):(zg (zL h.st p) i).id<(zg (zL h.st p) j).id:=by
 have hb:=z4y (l:=h.st) (p:=p)
 have hlen:(z4L h.st p).length=(zL h.st p).length:=by rw [←hb,List.length_map]
 have e:∀ k,k<(zL h.st p).length→zg (zL h.st p) k=zg h.st (zY (z4L h.st p) k):=fun k hk=>by
  have hi2:k<(z4L h.st p).length:=by omega
  rw [←hb]
  exact zhu (h:=h) hi2
 rw [e i (by omega),e j hj]
 have h1:zY (z4L h.st p) i<zY (z4L h.st p) j:=by
  have:=z9r (d:=0) (z8u (l:=h.st) (p:=p) h.st.length) hij (show j<(z4L h.st p).length by omega)
  exact this
 exact hO.rise.lt h1 (z8v _ _ (z05 (d:=0) (show j<(z4L h.st p).length by omega)))
theorem zo0 {h:Hp} {p:Int} (hO:OkH h) {i j:Nat} (hi:i<(zL h.st p).length) (hj:j<(zL h.st p).length) (e:(zg (zL h.st p) i).id=(zg (zL h.st p) j).id):i=j:=by
 rcases Nat.lt_trichotomy i j with c | c | c
 ·have:=zfm (p:=p) hO c hj;omega
 ·exact c
 ·have:=zfm (p:=p) hO c hi;omega
theorem zdI {h:Hp} {p:Int} {row:List Nat}:y7 h p row=row.reverse.map fun i=>(zg (zL h.st p) i).id:=by
 unfold y7 zT
 rw [List.map_map];rfl
theorem ziy {h:Hp} {p:Int} (hO:OkH h) {row:List Nat} (ha:z4K h (zL h.st p) row):(y7 h p row).Nodup:=by
 rw [zdI,List.nodup_iff_pairwise_ne,List.pairwise_map]
 have hn:row.reverse.Pairwise (· ≠ ·):=by
  rw [List.pairwise_reverse]
  have:=z96 ha
  rw [List.nodup_iff_pairwise_ne] at this
  exact this.imp Ne.symm
 refine hn.imp_of_mem fun {i j} hi hj hne e=>hne ?_
 exact zo0 hO (z9W ha i (List.mem_reverse.1 hi)) (z9W ha j (List.mem_reverse.1 hj)) e
theorem zja {h:Hp} {p:Int} (hO:OkH h) (y:Int×Int):Nd (zgF h p)∧z3N (zgF h p) y=Int.ofNat (zjT y (ordI h p)):=by
 have e:zgF h p=(ordI h p).foldl (fun c ids=>z9T c (z5b ids)) []:=by
  unfold zgF zcz zqV ordI
  rw [List.take_length]
 obtain ⟨h1,h2⟩:=zjb (y:=y) (rows:=ordI h p) (c:=[]) List.nodup_nil fun ids hi=>by
  obtain ⟨row,hr,rfl⟩:=List.mem_map.1 hi
  exact ziy hO (zbL hr).1
 rw [e]
 refine ⟨h1,h2.trans ?_⟩
 show (0:Int)+_=_
 rw [Int.zero_add]
theorem at_mem {c:yf} (h:Nd c) {n:Int} (hn:0<n) {y:Int×Int}:y∈atC c n ↔ n≤z3N c y:=by
 unfold atC
 rw [(z1h _).mem_iff]
 constructor
 ·intro hm
  obtain ⟨x,hx,rfl⟩:=List.mem_map.1 hm
  obtain ⟨h1,h2⟩:=List.mem_filter.1 hx
  have:=of_decide_eq_true h2
  rw [get_mem h (show (x.1,x.2)∈c from h1)];exact this
 ·intro hg
  have h1:=z8r (c:=c) (y:=y) (by omega)
  exact List.mem_map.2 ⟨_,List.mem_filter.2 ⟨h1,decide_eq_true hg⟩,rfl⟩
theorem zhi {h:Hp} {p:Int} (hO:OkH h) (hl:0<(zC h p).length) {y:Int×Int}:y∈zmC h p ↔ ∀ ids∈ordI h p,y∈z5b ids:=by
 obtain ⟨h1,h2⟩:=zja (p:=p) hO y
 have hlen:(ordI h p).length=(zC h p).length:=List.length_map _
 unfold zmC
 rw [at_mem h1 (by simp only [ym];omega),h2]
 have hle:zjT y (ordI h p)≤(ordI h p).length:=List.length_filter_le _ _
 have:Int.ofNat (zC h p).length≤Int.ofNat (zjT y (ordI h p)) ↔ zjT y (ordI h p)=(ordI h p).length:=by
  simp only [ym];omega
 rw [this]
 unfold zjT
 rw [List.length_filter_eq_length_iff]
 constructor
 ·intro g ids hi
  obtain ⟨x,hx,e⟩:=List.any_eq_true.1 (g ids hi)
  rw [of_decide_eq_true e];exact hx
 ·intro g ids hi
  exact List.any_eq_true.2 ⟨y,g ids hi,decide_eq_true rfl⟩
theorem zia {h:Hp} {p:Int} (hO:OkH h) {y:Int×Int}:y∈znn h p ↔ ∃ ids∈ordI h p,y∈z5b ids:=by
 obtain ⟨h1,h2⟩:=zja (p:=p) hO y
 unfold znn
 rw [at_mem h1 (by decide),h2]
 have:(1:Int)≤Int.ofNat (zjT y (ordI h p)) ↔ 0<zjT y (ordI h p):=by simp only [ym];omega
 rw [this]
 unfold zjT
 rw [List.length_pos_iff_exists_mem]
 constructor
 ·rintro ⟨ids,hi⟩
  obtain ⟨g1,g2⟩:=List.mem_filter.1 hi
  obtain ⟨x,hx,e⟩:=List.any_eq_true.1 g2
  exact ⟨ids,g1,by rw [of_decide_eq_true e];exact hx⟩
 ·rintro ⟨ids,g1,g2⟩
  exact ⟨ids,List.mem_filter.2 ⟨g1,List.any_eq_true.2 ⟨y,g2,decide_eq_true rfl⟩⟩⟩
theorem zpJ (R:Raw):zL (mdH R).st 3=zU R 30:=by
 refine List.filter_eq_self.2 fun s hs=>?_
 obtain ⟨_,k,_,_,_,_,_,rfl⟩:=z6q 30 (show s∈zU R 30 from hs)
 rfl
open Classical in
noncomputable def tI (R:Raw) (k:Nat):Nat:=if hk:k<nM R then (zeP hk).choose else 0
theorem zhh {R:Raw} {k:Nat} (hk:k<nM R):tI R k<(zU R 30).length∧zg (zU R 30) (tI R k)=z5w R k:=by
 unfold tI
 rw [dif_pos hk]
 exact (zeP hk).choose_spec
theorem zoG {R:Raw} {i k:Nat} (hi:i<nM R) (hk:k<nM R) (e:tI R i=tI R k):i=k:=by
 have h1:=(zhh hi).2
 rw [e,(zhh hk).2] at h1
 have:=congrArg Sht.id h1
 rw [z3F,z3F] at this
 exact (z6x hk hi this).symm
noncomputable def zhd (R:Raw):Nat→List Nat
 | 0=>[]
 | k+1=>tI R k::zhd R k
theorem zek {R:Raw} {x:Nat}:∀ {k},x∈zhd R k→∃ i,i<k∧x=tI R i
 | 0,h=>by cases h
 | k+1,h=>by
  rcases List.mem_cons.1 (show x∈tI R k::zhd R k from h) with rfl | h
  ·exact ⟨k,Nat.lt_succ_self k,rfl⟩
  ·obtain ⟨i,h1,h2⟩:=zek h
   exact ⟨i,by omega,h2⟩
theorem za9 {R:Raw}:∀ k,(zhd R k).length=k
 | 0=>rfl
 | k+1=>congrArg (· + 1) (za9 k)
theorem zpb {R:Raw} {k:Nat} (hk:k<nM R):toS (mdH R) ((zF R).getD k 0)=0∨(k+1<nM R∧toS (mdH R) ((zF R).getD k 0)=(zF R).getD (k+1) 0):=by
 rcases z3O (zkN R) ((zF R).getD k 0) with ⟨j,hj,h1,h2⟩ | ⟨_,h2⟩
 ·have hm:zD (zW R 30) j∈zW R 30:=z05 hj
  obtain ⟨i,k',_,_,_,h4,h5,h6,h7⟩:=z6t 30 hm
  have h1:(zD (zW R 30) j).fro=(zF R).getD k 0:=h1
  have:k'=k:=z6x (by omega) hk (by rw [h5,←h6,h1])
  subst this
  exact .inr ⟨h4,h2.trans h7⟩
 ·exact .inl h2
theorem zpe {R:Raw} {k:Nat} (hk:k<nM R):frS (mdH R) ((zF R).getD k 0)=0∨(0<k∧frS (mdH R) ((zF R).getD k 0)=(zF R).getD (k - 1) 0):=by
 rcases z4b (zkN R) ((zF R).getD k 0) with ⟨j,hj,h1,h2⟩ | ⟨_,h2⟩
 ·have hm:zD (zW R 30) j∈zW R 30:=z05 hj
  obtain ⟨i,k',_,_,_,h4,h5,h6,h7⟩:=z6t 30 hm
  have h1:(zD (zW R 30) j).too=(zF R).getD k 0:=h1
  have:k'+1=k:=z6x h4 hk (by rw [←h7,h1])
  subst this
  exact .inr ⟨Nat.succ_pos _,by rw [h2,Nat.add_sub_cancel];exact h6.trans h5.symm⟩
 ·exact .inl h2
theorem zpd {R:Raw} {k:Nat} (hk:k+1<nM R):mayB (mdH R) (z5w R k) (z5w R (k+1))=true:=by
 unfold mayB
 rw [yx,yx]
 refine ⟨?_,?_,?_⟩
 ·show (zpG R k==zpu R (k+1)||(zpG R k==0||zpu R (k+1)==0))=true
  unfold zpG zpu
  rw [if_pos hk]
  cases (zZ (shN R k).2.1 2==0) with
  | false=>rw [cond_false,beq_self_eq_true];simp
  | true =>
   cases (zZ (shN R (k+1)).2.1 1==0) with
   | false=>rw [cond_false,beq_self_eq_true];simp
   | true=>rw [cond_true,beq_self_eq_true];rfl
 ·show (toS (mdH R) ((zF R).getD k 0)==0||toS (mdH R) ((zF R).getD k 0)==(zF R).getD (k+1) 0)=true
  rcases zpb (R:=R) (k:=k) (by omega) with h | ⟨_,h⟩ <;> rw [h,beq_self_eq_true] <;> simp
 ·show (frS (mdH R) ((zF R).getD (k+1) 0)==0||frS (mdH R) ((zF R).getD (k+1) 0)==(zF R).getD k 0)=true
  rcases zpe (R:=R) (k:=k+1) hk with h | ⟨_,h⟩ <;> rw [h]
  ·rfl
  ·rw [Nat.add_sub_cancel,beq_self_eq_true];simp
theorem z7C {R:Raw}:∀ k,k≤nM R→z4K (mdH R) (zU R 30) (zhd R k)
 | 0,_=>trivial
 | k+1,hk=>by
  have ih:=z7C (R:=R) k (by omega)
  obtain ⟨h1,h2⟩:=zhh (R:=R) (k:=k) (by omega)
  refine ⟨ih,h1,?_⟩
  cases k with
  | zero =>
   show okR (mdH R) (zU R 30) [] (tI R 0)=true
   rw [zat,h2]
   rcases zpe (R:=R) (k:=0) (by omega) with h | ⟨h,_⟩
   ·show (frS (mdH R) ((zF R).getD 0 0)==0)=true
    rw [h];rfl
   ·exact absurd h (Nat.lt_irrefl 0)
  | succ k =>
   have hc:(zhd R (k+1)).contains (tI R (k+1))=false:=by
    rw [←Bool.not_eq_true,List.contains_iff_mem]
    intro hm
    obtain ⟨i,hi,e⟩:=zek hm
    have:=zoG (R:=R) (by omega) (by omega) e
    omega
   show okR (mdH R) (zU R 30) (tI R k::zhd R k) (tI R (k+1))=true
   rw [z4t hc,h2,(zhh (R:=R) (k:=k) (by omega)).2]
   exact zpd (by omega)
theorem zlH {R:Raw}:∀ k,k≤nM R→zT (zU R 30) (zhd R k)=z9a R k
 | 0,_=>rfl
 | k+1,hk=>by
  show zT (zU R 30) (tI R k::zhd R k)=_
  rw [z8e,zlH k (by omega),(zhh (R:=R) (k:=k) (by omega)).2,zbv]
theorem zbu {R:Raw} {n k:Nat} (hk:k<n):zg (z9a R n) k=z5w R k:=by
 unfold zg z9a
 rw [zx (show k<((List.range n).map (z5w R)).length by rw [List.length_map,List.length_range];exact hk),List.getElem_map,List.getElem_range]
theorem z9Y (R:Raw) (i w:Nat):∀ n,(z6V R i n).testBit w=(decide (w<n)&&zcS R i w)
 | 0=>by show (0:Nat).testBit w=_;rw [Nat.zero_testBit,decide_eq_false (Nat.not_lt_zero w)];rfl
 | n+1=>by
  have ih:=z9Y R i w n
  show (bif zcS R i n then z6V R i n ||| 1 <<< n else z6V R i n).testBit w=_
  by_cases c:w=n
  ·subst c
   rw [decide_eq_true (Nat.lt_succ_self w),Bool.true_and]
   rw [decide_eq_false (Nat.lt_irrefl w),Bool.false_and] at ih
   cases hb:zcS R i w with
   | true=>rw [cond_true,Nat.testBit_or,Nat.one_shiftLeft,Nat.testBit_two_pow,decide_eq_true rfl,Bool.or_true]
   | false=>exact ih
  ·have e:decide (w<n+1)=decide (w<n):=by rw [Bool.eq_iff_iff,decide_eq_true_iff,decide_eq_true_iff];omega
   rw [e,←ih]
   cases zcS R i n with
   | true=>rw [cond_true,Nat.testBit_or,Nat.one_shiftLeft,Nat.testBit_two_pow,decide_eq_false (fun h=>c h.symm),Bool.or_false]
   | false=>rfl
theorem zer (R:Raw) (k w:Nat):z6I (z5w R k) w=((z6V R k (nW R)).testBit w && !(zha R k).testBit w):=by
 show (zjS R k).testBit w=_
 unfold zjS
 rw [Nat.testBit_xor,Nat.testBit_and]
 cases (z6V R k (nW R)).testBit w <;> cases (zha R k).testBit w <;> rfl
theorem zkb (R:Raw) (k w:Nat):zdK (z5w R k) w=((z6V R k (nW R)).testBit w||(zha R k).testBit w):=by
 show (zjS R k ||| zha R k).testBit w=_
 rw [Nat.testBit_or]
 unfold zjS
 rw [Nat.testBit_xor,Nat.testBit_and]
 cases (z6V R k (nW R)).testBit w <;> cases (zha R k).testBit w <;> rfl
theorem zk5 {R:Raw}:y9 (z9a R (nM R)) 12=0:=by
 rw [zb0]
 intro w _
 rw [←Bool.not_eq_true,zdZ]
 rintro ⟨i,j,k,hij,hjk,hk,hi,hj,hk2⟩
 rw [z5v] at hk
 rw [zbu (by omega),zer,z9Y,yx,yx] at hi
 rw [zbu hk,zer,z9Y,yx,yx] at hk2
 rw [zbu (by omega),zkb,z9Y,Bool.or_eq_false_iff] at hj
 have h1:=hi.1.2
 have h2:=hk2.1.2
 have h3:=hj.1
 rw [hi.1.1,Bool.true_and] at h3
 unfold zcS at h1 h2 h3
 rw [yx,decide_eq_true_iff,decide_eq_true_iff] at h1 h2
 have:(decide (zS (woN R w).1 7≤Int.ofNat j)&&decide (Int.ofNat j≤zS (woN R w).1 7+zS (woN R w).2 4))=true:=by
  rw [yx,decide_eq_true_iff,decide_eq_true_iff]
  simp only [ym] at *
  omega
 rw [this] at h3;cases h3
theorem zhk (R:Raw):(zU R 30).length=nM R:=by
 refine Nat.le_antisymm ?_ ?_
 ·have h1:((zU R 30).map (·.id)).Nodup:=by
   rw [List.nodup_iff_pairwise_ne,List.pairwise_map]
   exact (zbq 30).imp fun h=>Int.ne_of_lt h
  have h2:=z4u (m:=zF R) h1 fun y hy=>by
   obtain ⟨s,hs,rfl⟩:=List.mem_map.1 hy
   obtain ⟨i,k,_,_,_,hk,_,rfl⟩:=z6q 30 hs
   rw [z3F]
   exact z05 (by rw [z1J];exact hk)
  rw [List.length_map,z1J] at h2
  exact h2
 ·have:=z4u (l:=zhd R (nM R)) (m:=List.range (zU R 30).length) (z96 (z7C _ (yn _))) fun x hx=>List.mem_range.2 (z9W (z7C _ (yn _)) x hx)
  rw [za9,List.length_range] at this
  exact this
theorem zk4 (R:Raw):zhd R (nM R)∈zC (mdH R) 3:=by
 unfold zC
 rw [zpJ]
 refine List.mem_filter.2 ⟨rows_iff.2 ⟨z7C _ (yn _),by rw [za9,zhk]⟩,?_⟩
 unfold zch
 rw [zlH _ (yn _),zk5,yx]
 refine ⟨?_,rfl⟩
 unfold zbo
 rw [allB_iff]
 intro k hk
 rw [z5v] at hk
 unfold okT
 rw [zbu hk,Bool.or_eq_true,yx,z5v]
 rcases zpb hk with h | ⟨h1,h⟩
 ·exact .inl (by rw [z3F,h];rfl)
 ·refine .inr ⟨decide_eq_true h1,?_⟩
  rw [zbu h1,z3F,z3F,h,beq_self_eq_true]
theorem zpc (R:Raw):0<(zC (mdH R) 3).length:=List.length_pos_of_mem (zk4 R)
theorem znX {h:Hp} {p:Int} (e:ppE h p=0) {o:List Int} (ho:o∈ordI h p):zpF h p o=0:=by
 obtain ⟨row,h1,rfl⟩:=List.mem_map.1 ho
 have hi:zik h p (y7 h p row)=true:=by
  unfold zik
  exact List.any_eq_true.2 ⟨row,h1,beq_self_eq_true _⟩
 unfold zpF
 rw [if_pos e,hi];rfl
structure Less (h d:Hp):Prop where
 okh:OkH h
 okd:OkH d
 len:d.st.length=h.st.length
 id:∀ k,k<h.st.length→(zg d.st k).id=(zg h.st k).id
 paper:∀ k,k<h.st.length→(zg d.st k).paper=(zg h.st k).paper
 first:∀ k,k<h.st.length→(zg d.st k).first=(zg h.st k).first∨(zg d.st k).first=0
 catch_:∀ k,k<h.st.length→(zg d.st k).catch_=(zg h.st k).catch_∨(zg d.st k).catch_=0
 has:∀ k,k<h.st.length→∀ w,z6I (zg d.st k) w=true→z6I (zg h.st k) w=true
 may:∀ k,k<h.st.length→∀ w,zdK (zg h.st k) w=true→zdK (zg d.st k) w=true
 sw:∀ x∈d.sw,x∈h.sw
theorem zkO {l m:List Sht} {p:Int} (hl:m.length=l.length) (hp:∀ k,k<l.length→(zg m k).paper=(zg l k).paper):z4L m p=z4L l p:=by
 have:∀ k,k≤l.length→zaC m p k=zaC l p k:=fun k=>by
  induction k with
  | zero=>intro _;rfl
  | succ k ih =>
   intro hk
   show (bif (zg m k).paper==p then zaC m p k++[k] else zaC m p k)=(bif (zg l k).paper==p then zaC l p k++[k] else zaC l p k)
   rw [ih (by omega),hp k (by omega)]
 unfold z4L
 rw [hl];exact this _ (yn _)
theorem zme {l:List Sht} {p:Int} {i:Nat} (hi:i<(zL l p).length):zg (zL l p) i=zg l (zY (z4L l p) i)∧zY (z4L l p) i<l.length:=by
 have hb:=z4y (l:=l) (p:=p)
 have hlen:(z4L l p).length=(zL l p).length:=by rw [←hb,List.length_map]
 have hi2:i<(z4L l p).length:=by omega
 refine ⟨?_,z8v _ _ (z05 (d:=0) hi2)⟩
 rw [←hb]
 unfold zg zY
 rw [zx (show i<((z4L l p).map fun i=>l.getD i default).length by rw [List.length_map];exact hi2),List.getElem_map,zx hi2]
theorem Less.bun {h d:Hp} (n:Less h d) (p:Int):(zL d.st p).length=(zL h.st p).length∧∀ i,i<(zL h.st p).length→∃ k,k<h.st.length∧zg (zL h.st p) i=zg h.st k∧zg (zL d.st p) i=zg d.st k:=by
 have hl:=zkO (p:=p) n.len n.paper
 have e:(zL d.st p).length=(zL h.st p).length:=by
  rw [←z4y,←z4y,List.length_map,List.length_map,hl]
 refine ⟨e,fun i hi=>?_⟩
 obtain ⟨h1,h2⟩:=zme hi
 obtain ⟨h3,_⟩:=zme (l:=d.st) (p:=p) (i:=i) (by omega)
 rw [hl] at h3
 exact ⟨_,h2,h1,h3⟩
theorem znI {h:Hp} (n:OkH h) {x y:Sew} (hx:x∈h.sw) (hy:y∈h.sw) (e:x.fro=y.fro):x=y:=by
 obtain ⟨i,hi,rfl⟩:=z0n (d:=default) hx
 obtain ⟨j,hj,rfl⟩:=z0n (d:=default) hy
 have hlt:∀ {a b:Nat},a<b→b<h.sw.length→(zD h.sw a).fro<(zD h.sw b).fro:=fun {a b} hab hb=>by
  obtain ⟨c,rfl⟩:∃ c,b=a+c+1:=⟨b - a - 1,by omega⟩
  clear hab
  induction c with
  | zero=>exact n.froms (a+1) (Nat.succ_pos _) hb
  | succ c ih=>exact Int.lt_trans (ih (by omega)) (n.froms (a+(c+1)+1) (Nat.succ_pos _) hb)
 rcases Nat.lt_trichotomy i j with c | c | c
 ·have:(zD h.sw i).fro<(zD h.sw j).fro:=hlt c hj
  have e:(zD h.sw i).fro=(zD h.sw j).fro:=e
  omega
 ·rw [c]
 ·have:(zD h.sw j).fro<(zD h.sw i).fro:=hlt c hi
  have e:(zD h.sw i).fro=(zD h.sw j).fro:=e
  omega
theorem zmA {h:Hp} (n:OkH h) {x y:Sew} (hx:x∈h.sw) (hy:y∈h.sw) (e:x.too=y.too):x=y:=by
 obtain ⟨i,hi,rfl⟩:=z0n (d:=default) hx
 obtain ⟨j,hj,rfl⟩:=z0n (d:=default) hy
 rcases Nat.lt_trichotomy i j with c | c | c
 ·exact absurd e (n.toos j hj i c)
 ·rw [c]
 ·exact absurd e.symm (n.toos i hi j c)
theorem Less.to {h d:Hp} (n:Less h d) (id:Int):toS d id=0∨toS d id=toS h id:=by
 rcases z3O n.okd id with ⟨j,hj,h1,h2⟩ | ⟨_,h2⟩
 ·refine .inr ?_
  have hm:=n.sw _ (show zD d.sw j∈d.sw from z05 hj)
  rcases z3O n.okh id with ⟨i,hi,g1,g2⟩ | ⟨g1,_⟩
  ·have:=znI n.okh hm (show zD h.sw i∈h.sw from z05 hi) (h1.trans g1.symm)
   rw [h2,g2,this]
  ·obtain ⟨i,hi,e⟩:=z0n (d:=default) hm
   have e:zD h.sw i=zD d.sw j:=e
   exact absurd (by rw [e];exact h1) (g1 i hi)
 ·exact .inl h2
theorem Less.fr {h d:Hp} (n:Less h d) (id:Int):frS d id=0∨frS d id=frS h id:=by
 rcases z4b n.okd id with ⟨j,hj,h1,h2⟩ | ⟨_,h2⟩
 ·refine .inr ?_
  have hm:=n.sw _ (show zD d.sw j∈d.sw from z05 hj)
  rcases z4b n.okh id with ⟨i,hi,g1,g2⟩ | ⟨g1,_⟩
  ·have:=zmA n.okh hm (show zD h.sw i∈h.sw from z05 hi) (h1.trans g1.symm)
   rw [h2,g2,this]
  ·obtain ⟨i,hi,e⟩:=z0n (d:=default) hm
   have e:zD h.sw i=zD d.sw j:=e
   exact absurd (by rw [e];exact h1) (g1 i hi)
 ·exact .inl h2
theorem Less.mayB {h d:Hp} (n:Less h d) {i k:Nat} (hi:i<h.st.length) (hk:k<h.st.length) (hm:mayB h (zg h.st i) (zg h.st k)=true):mayB d (zg d.st i) (zg d.st k)=true:=by
 unfold Go.Proofs.YtdpipdniklognaaGreat.mayB at hm ⊢
 rw [yx,yx] at hm ⊢
 obtain ⟨h1,h2,h3⟩:=hm
 refine ⟨?_,?_,?_⟩
 ·rw [Bool.or_eq_true,Bool.or_eq_true,beq_iff_eq,beq_iff_eq,beq_iff_eq] at h1 ⊢
  rcases n.catch_ i hi with c | c
  ·rcases n.first k hk with f | f
   ·rw [c,f];exact h1
   ·exact .inr (.inr f)
  ·exact .inr (.inl c)
 ·rw [Bool.or_eq_true,beq_iff_eq,beq_iff_eq] at h2 ⊢
  rw [n.id i hi,n.id k hk]
  rcases n.to (zg h.st i).id with c | c
  ·exact .inl c
  ·rw [c];exact h2
 ·rw [Bool.or_eq_true,beq_iff_eq,beq_iff_eq] at h3 ⊢
  rw [n.id i hi,n.id k hk]
  rcases n.fr (zg h.st k).id with c | c
  ·exact .inl c
  ·rw [c];exact h3
theorem Less.all {h d:Hp} (n:Less h d) {p:Int}:∀ {row:List Nat},z4K h (zL h.st p) row→z4K d (zL d.st p) row
 | [],_=>trivial
 | a::t,⟨g1,g2,g3⟩=>by
  obtain ⟨e1,e2⟩:=n.bun p
  refine ⟨n.all g1,by omega,?_⟩
  obtain ⟨ka,a1,a2,a3⟩:=e2 a g2
  cases t with
  | nil =>
   rw [zat,beq_iff_eq] at g3 ⊢
   rw [a2] at g3
   rw [a3,n.id ka a1]
   rcases n.fr (zg h.st ka).id with c | c
   ·exact c
   ·rw [c];exact g3
  | cons j t =>
   have hc:(j::t).contains a=false:=by
    rw [←Bool.not_eq_true]
    intro hc
    rw [z8p hc] at g3;cases g3
   rw [z4t hc] at g3 ⊢
   obtain ⟨kj,b1,b2,b3⟩:=e2 j g1.2.1
   rw [a2,b2] at g3
   rw [a3,b3]
   exact n.mayB b1 a1 g3
theorem zez {l:List Sht} {row:List Nat} {k:Nat} (hk:k<row.length):zg (zT l row) k=zg l (zY row.reverse k):=by
 unfold zT zg zY
 rw [zx (show k<(row.reverse.map fun i=>l.getD i default).length by rw [List.length_map,List.length_reverse];exact hk),List.getElem_map]
 exact congrArg (fun i=>l.getD i default) (zx (by rw [List.length_reverse];exact hk)).symm
theorem Less.row {h d:Hp} (n:Less h d) {p:Int} {row:List Nat} (ha:z4K h (zL h.st p) row) {k:Nat} (hk:k<row.length):∃ i,i<h.st.length∧zg (zT (zL h.st p) row) k=zg h.st i∧zg (zT (zL d.st p) row) k=zg d.st i:=by
 rw [zez hk,zez hk]
 have hm:zY row.reverse k∈row:=List.mem_reverse.1 (z05 (by rw [List.length_reverse];exact hk))
 exact (n.bun p).2 _ (z9W ha _ hm)
theorem Less.ord {h d:Hp} (n:Less h d) {p:Int} {row:List Nat} (hr:row∈zC h p):row∈zC d p:=by
 obtain ⟨h1,h2⟩:=List.mem_filter.1 hr
 obtain ⟨ha,hl⟩:=rows_iff.1 h1
 refine List.mem_filter.2 ⟨rows_iff.2 ⟨n.all ha,by rw [hl,(n.bun p).1]⟩,?_⟩
 unfold zch at h2 ⊢
 rw [yx] at h2 ⊢
 obtain ⟨g1,g2⟩:=h2
 refine ⟨?_,?_⟩
 ·unfold zbo at g1 ⊢
  rw [allB_iff] at g1 ⊢
  intro k hk
  rw [z0w] at hk
  have g:=g1 k (by rw [z0w];exact hk)
  obtain ⟨i,i1,i2,i3⟩:=n.row ha hk
  unfold okT at g ⊢
  rw [z0w] at g ⊢
  rw [i2] at g
  rw [i3,n.id i i1]
  rw [Bool.or_eq_true,yx,beq_iff_eq,beq_iff_eq,decide_eq_true_iff] at g ⊢
  rcases n.to (zg h.st i).id with c | c
  ·exact .inl c
  ·rcases g with g | ⟨g,g'⟩
   ·exact .inl (c.trans g)
   ·refine .inr ⟨g,?_⟩
    obtain ⟨i',j1,j2,j3⟩:=n.row ha g
    rw [j3,n.id i' j1,c,←g',j2]
 ·have g2:=eq_of_beq g2
  rw [zb0] at g2
  rw [beq_iff_eq,zb0]
  intro w hw
  rw [←Bool.not_eq_true,zdZ]
  rintro ⟨i,j,k,hij,hjk,hk,hi,hj,hk2⟩
  rw [z0w] at hk
  obtain ⟨a,a1,a2,a3⟩:=n.row ha (show i<row.length by omega)
  obtain ⟨b,b1,b2,b3⟩:=n.row ha (show j<row.length by omega)
  obtain ⟨c,c1,c2,c3⟩:=n.row ha hk
  rw [a3] at hi
  rw [b3] at hj
  rw [c3] at hk2
  have hbf:zdK (zg h.st b) w=false:=by
   rw [←Bool.not_eq_true]
   intro g
   rw [n.may b b1 w g] at hj;cases hj
  have:=(zdZ (l:=zT (zL h.st p) row) (w:=w)).2 ⟨i,j,k,hij,hjk,(by rw [z0w];exact hk),(by rw [a2];exact n.has a a1 w hi),(by rw [b2];exact hbf),(by rw [c2];exact n.has c c1 w hk2)⟩
  rw [g2 w hw] at this;cases this
theorem Less.ids {h d:Hp} (n:Less h d) {p:Int} {row:List Nat} (hr:row∈zC h p):y7 d p row=y7 h p row:=by
 obtain ⟨ha,hl⟩:=zbL hr
 rw [zdI,zdI]
 refine List.map_congr_left fun i hi=>?_
 obtain ⟨k,k1,k2,k3⟩:=(n.bun p).2 i (z9W ha i (List.mem_reverse.1 hi))
 rw [k2,k3,n.id k k1]
theorem Less.ordI {h d:Hp} (n:Less h d) {p:Int} {ids:List Int} (hi:ids∈ordI h p):ids∈ordI d p:=by
 obtain ⟨row,hr,rfl⟩:=List.mem_map.1 hi
 exact List.mem_map.2 ⟨row,n.ord hr,n.ids hr⟩
theorem zfW {h:Hp} {p:Int}:(zC h p).Nodup:=(zci (h:=h) (l:=zL h.st p) _ (row0:=[]) trivial).sublist List.filter_sublist
theorem Less.count {h d:Hp} (n:Less h d) {p:Int}:(zC h p).length≤(zC d p).length:=z4u zfW fun _ hx=>n.ord hx
theorem Less.sure {h d:Hp} (n:Less h d) {p:Int} (hl:0<(zC h p).length) {y:Int×Int} (hy:y∈zmC d p):y∈zmC h p:=by
 rw [zhi n.okd (yu hl n.count)] at hy
 rw [zhi n.okh hl]
 exact fun ids hi=>hy ids (n.ordI hi)
theorem Less.some {h d:Hp} (n:Less h d) {p:Int} {y:Int×Int} (hy:y∈znn h p):y∈znn d p:=by
 rw [zia n.okh] at hy
 rw [zia n.okd]
 obtain ⟨ids,h1,h2⟩:=hy
 exact ⟨ids,n.ordI h1,h2⟩
end
section
variable {r:Rm}
def z4D (q x:Int) (s:Sht):Sht :=
 if q=0 then { s with first:=0 } else if q=1 then { s with catch_:=0 } else
 if q=2 then { s with unsure:=Int.ofNat (s.unsure.toNat ||| zZ x s.holes.toNat),holes:=Int.ofNat (s.holes.toNat ^^^ zZ x s.holes.toNat) } else s
def zbc (q x:Int) (w:List Sew):List Sew:=if q=3∧0<w.length then w.eraseIdx (zS x (Int.ofNat w.length)).toNat else w
def z5U (h:Hp) (a:Int):Nat:=(zS a (Int.ofNat h.st.length)).toNat
def z9g (h:Hp) (a b c:Int):Hp:=if h.st.length=0 then ⟨h.st,false,h.sw,false⟩ else ⟨h.st.set (z5U h a) (z4D (zS b 4) c (zg h.st (z5U h a))),false,zbc (zS b 4) c h.sw,false⟩
theorem zib (x:Int) (k w:Nat) (h:(zZ x k).testBit w=true):k.testBit w=true:=by
 unfold zZ at h
 rw [Nat.testBit_and,yx] at h
 exact h.2
theorem znN {q x:Int} {s:Sht} (o:OkS s):OkS (z4D q x s):=by
 have hb:=o.bit
 unfold z4D
 split
 ·exact ⟨o.id,o.paper,by show wth 0 0 999=true;decide,o.catch_,o.holes,o.unsure,o.apart⟩
 ·split
  ·exact ⟨o.id,o.paper,o.first,by show wth 0 0 999=true;decide,o.holes,o.unsure,o.apart⟩
  ·split
   ·have h1:s.holes.toNat<4096:=Nat.lt_succ_of_le hb.h2
    have h2:s.unsure.toNat<4096:=Nat.lt_succ_of_le hb.u2
    have h3:zZ x s.holes.toNat<4096:=Nat.lt_of_le_of_lt (z5d _ _) h1
    have h4:s.unsure.toNat ||| zZ x s.holes.toNat<4096:=Nat.or_lt_two_pow (n:=12) h2 h3
    have h5:s.holes.toNat ^^^ zZ x s.holes.toNat<4096:=Nat.xor_lt_two_pow (n:=12) h1 h3
    refine ⟨o.id,o.paper,o.first,o.catch_,z7T ?_ ?_,z7T ?_ ?_,?_⟩
    ·show 0≤Int.ofNat _;simp only [ym];omega
    ·show Int.ofNat (s.holes.toNat ^^^ zZ x s.holes.toNat)≤4095;simp only [ym];omega
    ·show 0≤Int.ofNat _;simp only [ym];omega
    ·show Int.ofNat (s.unsure.toNat ||| zZ x s.holes.toNat)≤4095;simp only [ym];omega
    ·have ha:s.holes.toNat &&& s.unsure.toNat=0:=by
      have:=o.apart
      unfold znl at this
      rw [Bool.not_eq_false',beq_iff_eq] at this
      exact Int.ofNat.inj this
     have e:(s.holes.toNat ^^^ zZ x s.holes.toNat) &&& (s.unsure.toNat ||| zZ x s.holes.toNat)=0:=by
      refine Nat.eq_of_testBit_eq fun w=>?_
      have hw:=congrArg (fun n=>n.testBit w) ha
      have hl:=zib x s.holes.toNat w
      simp only [Nat.testBit_and,Nat.zero_testBit] at hw
      rw [Nat.testBit_and,Nat.testBit_xor,Nat.testBit_or,Nat.zero_testBit]
      cases h1:s.holes.toNat.testBit w <;> cases h2:s.unsure.toNat.testBit w <;> cases h3:(zZ x s.holes.toNat).testBit w <;> simp_all
     show (!(Int.ofNat ((s.holes.toNat ^^^ zZ x s.holes.toNat) &&& (s.unsure.toNat ||| zZ x s.holes.toNat))==0))=false
     rw [e];rfl
   ·exact o
theorem zaR (q x:Int) (s:Sht):(z4D q x s).id=s.id∧(z4D q x s).paper=s.paper:=by
 unfold z4D
 split
 ·exact ⟨rfl,rfl⟩
 ·split
  ·exact ⟨rfl,rfl⟩
  ·split <;> exact ⟨rfl,rfl⟩
theorem zcw (q x:Int) (s:Sht):((z4D q x s).first=s.first∨(z4D q x s).first=0)∧((z4D q x s).catch_=s.catch_∨(z4D q x s).catch_=0):=by
 unfold z4D
 split
 ·exact ⟨.inr rfl,.inl rfl⟩
 ·split
  ·exact ⟨.inl rfl,.inr rfl⟩
  ·split <;> exact ⟨.inl rfl,.inl rfl⟩
theorem zfe (q x:Int) (s:Sht) (w:Nat):(z6I (z4D q x s) w=true→z6I s w=true)∧(zdK s w=true→zdK (z4D q x s) w=true):=by
 unfold z4D
 split
 ·exact ⟨fun g=>g,fun g=>g⟩
 ·split
  ·exact ⟨fun g=>g,fun g=>g⟩
  ·split
   ·have hl:=zib x s.holes.toNat w
    refine ⟨fun g=>?_,fun g=>?_⟩
    ·have g:(s.holes.toNat ^^^ zZ x s.holes.toNat).testBit w=true:=g
     rw [Nat.testBit_xor] at g
     show s.holes.toNat.testBit w=true
     cases h1:s.holes.toNat.testBit w <;> cases h3:(zZ x s.holes.toNat).testBit w <;> simp_all
    ·have g:(s.holes.toNat ||| s.unsure.toNat).testBit w=true:=g
     rw [Nat.testBit_or] at g
     show ((s.holes.toNat ^^^ zZ x s.holes.toNat) ||| (s.unsure.toNat ||| zZ x s.holes.toNat)).testBit w=true
     rw [Nat.testBit_or,Nat.testBit_or,Nat.testBit_xor]
     cases h1:s.holes.toNat.testBit w <;> cases h2:s.unsure.toNat.testBit w <;> cases h3:(zZ x s.holes.toNat).testBit w <;> simp_all
   ·exact ⟨fun g=>g,fun g=>g⟩
theorem zff (q x:Int) (w:List Sew):(zbc q x w).Sublist w:=by
 unfold zbc
 split
 ·exact List.eraseIdx_sublist ..
 ·exact List.Sublist.refl _
theorem zoH {h:Hp} {w:List Sew} {b b':Bool} {l:List Sht} (n:OkH ⟨l,b,h.sw,b'⟩) (hw:w.Sublist h.sw):OkH ⟨l,b,w,b'⟩:=by
 have hpw:h.sw.Pairwise fun x y=>x.fro<y.fro∧x.too≠y.too:=by
  rw [List.pairwise_iff_getElem]
  intro i j hi hj hij
  have h1:∀ (a:Nat) (ha:a<h.sw.length),zD h.sw a=h.sw[a]:=fun a ha=>zx ha
  have h2:=n.toos j hj i hij
  refine ⟨?_,by rw [←h1 i hi,←h1 j hj];exact h2⟩
  rw [←h1 i hi,←h1 j hj]
  obtain ⟨c,rfl⟩:∃ c,j=i+c+1:=⟨j - i - 1,by omega⟩
  clear hij h2
  induction c with
  | zero=>exact n.froms (i+1) (Nat.succ_pos _) hj
  | succ c ih=>exact Int.lt_trans (ih (by omega)) (n.froms (i+(c+1)+1) (Nat.succ_pos _) hj)
 have hp2:=hpw.sublist hw
 refine ⟨n.st,yo hw.length_le n.sw,n.ok,n.rise,n.few,fun i hi=>?_,fun i h0 hi=>?_,fun i hi k hk=>?_⟩
 ·have hm:zD w i∈w:=z05 hi
  obtain ⟨j,hj,e⟩:=z0n (d:=default) (hw.subset hm)
  have:=n.sewn j hj
  have e:zD h.sw j=zD w i:=e
  rw [←e];exact this
 ·exact (z9r hp2 (show i - 1<i by omega) hi).1
 ·exact (z9r hp2 hk hi).2
theorem zl8 {h:Hp} (n:OkH h) (a b c:Int):Less h (z9g h a b c):=by
 unfold z9g
 by_cases h0:h.st.length=0
 ·rw [if_pos h0]
  have n2:OkH ⟨h.st,false,h.sw,false⟩:=⟨n.st,n.sw,n.ok,n.rise,n.few,n.sewn,n.froms,n.toos⟩
  exact ⟨n,n2,rfl,fun _ _=>rfl,fun _ _=>rfl,fun _ _=>.inl rfl,fun _ _=>.inl rfl,fun _ _ _ g=>g,fun _ _ _ g=>g,fun _ g=>g⟩
 ·rw [if_neg h0]
  have hn:∀ k,k<h.st.length→zg (h.st.set (z5U h a) (z4D (zS b 4) c (zg h.st (z5U h a)))) k=if k=z5U h a then z4D (zS b 4) c (zg h.st (z5U h a)) else zg h.st k:=fun k hk=>zhv _ _ _ _ hk
  have key:∀ k,k<h.st.length→zg (h.st.set (z5U h a) (z4D (zS b 4) c (zg h.st (z5U h a)))) k=z4D (zS b 4) c (zg h.st k)∨zg (h.st.set (z5U h a) (z4D (zS b 4) c (zg h.st (z5U h a)))) k=zg h.st k:=fun k hk=>by
   rw [hn k hk]
   by_cases e:k=z5U h a
   ·rw [if_pos e,←e];exact .inl rfl
   ·rw [if_neg e];exact .inr rfl
  have hl:(h.st.set (z5U h a) (z4D (zS b 4) c (zg h.st (z5U h a)))).length=h.st.length:=List.length_set
  have n1:OkH ⟨h.st.set (z5U h a) (z4D (zS b 4) c (zg h.st (z5U h a))),false,h.sw,false⟩:=zpY n hl fun k hk=>by
   rcases key k hk with e | e <;> rw [e]
   ·exact ⟨(zaR _ _ _).1,(zaR _ _ _).2,znN⟩
   ·exact Alk.refl _
  refine ⟨n,zoH n1 (zff _ _ _),hl,fun k hk=>?_,fun k hk=>?_,fun k hk=>?_,fun k hk=>?_,fun k hk w g=>?_,fun k hk w g=>?_,fun x hx=>(zff _ _ _).subset hx⟩
  ·rcases key k hk with e | e <;> (show (zg (h.st.set _ _) k).id=_;rw [e])
   exact (zaR _ _ _).1
  ·rcases key k hk with e | e <;> (show (zg (h.st.set _ _) k).paper=_;rw [e])
   exact (zaR _ _ _).2
  ·rcases key k hk with e | e <;> (show (zg (h.st.set _ _) k).first=_∨(zg (h.st.set _ _) k).first=0;rw [e])
   ·exact (zcw _ _ _).1
   ·exact .inl rfl
  ·rcases key k hk with e | e <;> (show (zg (h.st.set _ _) k).catch_=_∨(zg (h.st.set _ _) k).catch_=0;rw [e])
   ·exact (zcw _ _ _).2
   ·exact .inl rfl
  ·have g:z6I (zg (h.st.set (z5U h a) (z4D (zS b 4) c (zg h.st (z5U h a)))) k) w=true:=g
   rcases key k hk with e | e <;> rw [e] at g
   ·exact (zfe _ _ _ w).1 g
   ·exact g
  ·show zdK (zg (h.st.set (z5U h a) (z4D (zS b 4) c (zg h.st (z5U h a)))) k) w=true
   rcases key k hk with e | e <;> rw [e]
   ·exact (zfe _ _ _ w).2 g
   ·exact g
theorem zpU {E:Env} {t:TypeId} {x:Int} {k:Nat} (hk:k<9223372036854775808):y5 E .and t (.int .i64 (Int.ofNat k)) (.int .i64 x)=some (.int .i64 (Int.ofNat (zZ x k))):=by
 show some (Value.int .i64 (IntKind.i64.wrap (Int.ofNat (BitVec.ofInt 64 (Int.ofNat k) &&& BitVec.ofInt 64 x).toNat)))=_
 have h1:(BitVec.ofInt 64 (Int.ofNat k) &&& BitVec.ofInt 64 x).toNat=zZ x k:=by
  rw [z0W,BitVec.toNat_and,z1o (by omega),Nat.and_comm];rfl
 have h2:=z5d x k
 rw [z3D _ (by rw [h1];omega),h1]
theorem zpT {E:Env} {t:TypeId} {x:Int} {k:Nat} (hk:k<9223372036854775808):y5 E .andNot t (.int .i64 (Int.ofNat k)) (.int .i64 x)=some (.int .i64 (Int.ofNat (k ^^^ zZ x k))):=by
 show some (Value.int .i64 (IntKind.i64.wrap (Int.ofNat (BitVec.ofInt 64 (Int.ofNat k) &&& ~~~ BitVec.ofInt 64 x).toNat)))=_
 have h1:(BitVec.ofInt 64 (Int.ofNat k) &&& ~~~ BitVec.ofInt 64 x).toNat=k ^^^ zZ x k:=by
  rw [z0W]
  have h3:(BitVec.ofNat 64 k &&& ~~~ BitVec.ofInt 64 x)=BitVec.ofNat 64 k ^^^ (BitVec.ofInt 64 x &&& BitVec.ofNat 64 k):=by
   apply BitVec.eq_of_getLsbD_eq
   intro i hi
   simp only [BitVec.getLsbD_and,BitVec.getLsbD_not,BitVec.getLsbD_xor,hi,decide_true,Bool.true_and]
   cases (BitVec.ofNat 64 k).getLsbD i <;> cases (BitVec.ofInt 64 x).getLsbD i <;> rfl
  rw [h3,BitVec.toNat_xor,BitVec.toNat_and,z1o (by omega)];rfl
 have h2:=z5d x k
 have h4:k ^^^ zZ x k<2 ^ 63:=Nat.xor_lt_two_pow (by omega) (by omega)
 rw [z3D _ (by rw [h1];omega),h1]
theorem zl6 {w:List Sew} {J k:Nat} (hJ:J<w.length) (hk:k<w.length - 1):zD (w.eraseIdx J) k=if k<J then zD w k else zD w (k+1):=by
 have hl:(w.eraseIdx J).length=w.length - 1:=List.length_eraseIdx_of_lt hJ
 unfold zD
 rw [zx (by omega),List.getElem_eraseIdx]
 by_cases c:k<J
 ·rw [dif_pos c,if_pos c,zx (by omega)]
 ·rw [dif_neg c,if_neg c,zx (by omega)]
theorem z5S {w:List Sew} {J n:Nat} {f:Nat→List PV} (hJ:J<w.length) (hn:n=w.length - 1) (hf:∀ k,k<w.length - 1→f k=fW w (if k<J then k else k+1)):AImp (.p (.lst 58 false n f)) (.p (z1F false (w.eraseIdx J))):=by
 subst hn
 have hl:(w.eraseIdx J).length=w.length - 1:=List.length_eraseIdx_of_lt hJ
 unfold z1F
 rw [hl]
 refine AImp.lst fun k hk=>?_
 rw [hf k hk]
 show zdR (zD w _)=zdR (zD (w.eraseIdx J) k)
 rw [zl6 hJ hk]
 by_cases c:k<J
 ·rw [if_pos c,if_pos c]
 ·rw [if_neg c,if_neg c]
set_option maxHeartbeats 8000000 in
theorem zjM {h:Hp} {a b c:Int} (hO:OkH h):VP (sE r) 42 [.agg ((eHp h).map .p),.agg [iv a,iv b,iv c]] (.agg ((eHp (z9g h a b c)).map .p)):=by
 have hst:=hO.st
 have hsw:=hO.sw
 refine VP.of (fn:=Tryz.f42) za (zK rfl) (by kernel_rfl) rfl rfl rfl ?_
 by_cases h0:h.st.length=0
 ·have eR:(eHp (z9g h a b c)).map AV.p=[.p (z0E false h.st),.p (z1F false h.sw)]:=by
   unfold z9g
   rw [if_pos h0];rfl
  rw [eR]
  refine VSt.go za false [] 200 rfl AllP.n ?_
  refine zb (zk 0 (eHp h) rfl rfl) ?_
  refine zb (zk 1 [.int .i64 a,.int .i64 b,.int .i64 c] rfl rfl) ?_
  refine VSt.go za false [] 200 rfl AllP.n ?_
  refine VSt.pc rfl rfl rfl rfl rfl rfl rfl rfl ((zog (h:=h) (by omega) (by omega))) ?_
  refine VSt.go za false [] 200 rfl AllP.n ?_
  refine VSt.cond rfl (fun _=>?_) (fun q=>?_)
  ·refine VSt.go za false [] 200 rfl AllP.n ?_
   exact EndsP.mk rfl rfl rfl rfl
  ·have q:(Int.ofNat h.st.length==0)=false:=q
   rw [h0] at q;exact absurd q (by decide)
 ·have hC:=zlB (r:=r) (h:=h) (by omega) (by omega) (by omega)
  rw [Nat.zero_add] at hC
  have hmr:=z0x (x:=a) (m:=Int.ofNat h.st.length) (by simp only [ym];omega)
  have hti:zS a (Int.ofNat h.st.length)=Int.ofNat (z5U h a):=(Int.toNat_of_nonneg hmr.1).symm
  have htl:z5U h a<h.st.length:=by
   rw [hti] at hmr
   have:=hmr.2
   simp only [ym] at this;omega
  have hb:=(hO.ok _ htl).bit
  refine VSt.go za false [] 200 rfl AllP.n ?_
  refine zb (zk 0 (eHp h) rfl rfl) ?_
  refine zb (zk 1 [.int .i64 a,.int .i64 b,.int .i64 c] rfl rfl) ?_
  refine VSt.go za false [] 200 rfl AllP.n ?_
  refine VSt.cc [] rfl rfl rfl rfl rfl rfl rfl rfl rfl rfl rfl hC ?_
  rintro x L' ⟨rfl,rfl⟩
  refine VSt.go za false [] 200 rfl AllP.n ?_
  refine VSt.cond rfl (fun q=>?_) (fun _=>?_)
  ·have q:(Int.ofNat h.st.length==0)=true:=q
   have:=eq_of_beq q
   simp only [ym] at this
   omega
  refine VSt.go za false [] 200 rfl (AllP.c (by show 0<_;omega) AllP.n) ?_
  refine VSt.pc rfl rfl rfl rfl rfl rfl rfl rfl ((z3V (x:=a) (m:=Int.ofNat h.st.length) (by simp only [ym];omega) (by simp only [ym];omega))) ?_
  refine VSt.go za false [22] 200 rfl AllP.n ?_
  refine z07 6 (nv (z5U h a)) rfl (z1X hti) ?_
  refine VSt.go za false [] 200 rfl (AllP.c ‹_› (AllP.c rfl (AllP.c (by omega) (AllP.c rfl (AllP.c (by show 1<_;omega) AllP.n))))) ?_
  refine VSt.pc rfl rfl rfl rfl rfl rfl rfl rfl ((z3V (x:=b) (m:=4) (by decide) (by decide))) ?_
  refine VSt.go za false [] 200 rfl AllP.n ?_
  have hz0:0+z5U h a=z5U h a:=Nat.zero_add _
  have eR:(eHp (z9g h a b c)).map AV.p=[.p (z0E false (h.st.set (z5U h a) (z4D (zS b 4) c (zg h.st (z5U h a))))),.p (z1F false (zbc (zS b 4) c h.sw))]:=by
   unfold z9g
   rw [if_neg h0];rfl
  rw [eR]
  have hq4:=z0x (x:=b) (m:=4) (by decide)
  refine zm (zP (ps:=[(6,6),(5,5),(3,3),(2,2)]) (F0:=[(2,.p (.fp (eHp h) 0)),(3,.p (.fp [.int .i64 a,.int .i64 b,.int .i64 c] 0)),(4,.ref 2 0),(5,.ref 5 0),(6,nv (z5U h a)),(7,.ref 6 0),(29,iv (zS b 4)),(30,bv (zS b 4==0))]) (L0:=[(6,.cells ((zX (zg h.st (z5U h a))).map .p) 74),(5,.cells [.sl 3 6 0 h.st.length h.st.length 0,.p (z1F false h.sw)] 25),(3,.arr h.st.length 6 (fS h.st) 74),(2,.cells [.p (.lst 0 true 0 fun _=>[]),.p (.lst 0 true 0 fun _=>[])] 25)]) ⟨rfl,rfl,(by repeat (first | exact zw | refine zq rfl rfl rfl ?_)),_,rfl,⟨rfl,(by rw [hz0];exact BImp.refl _),rfl,BImp.refl _,rfl,BImp.refl _,rfl,BImp.refl _,trivial⟩⟩) ?_
  generalize zS b 4=q at *
  generalize z5U h a=z at *
  have hcase:q=0∨(q=1∨q=2∨q=3):=by omega
  have hu:(zg h.st z).unsure.toNat<9223372036854775808:=Nat.lt_of_le_of_lt hb.u2 (by decide)
  have hh:(zg h.st z).holes.toNat<9223372036854775808:=Nat.lt_of_le_of_lt hb.h2 (by decide)
  have hlo:zZ c (zg h.st z).holes.toNat<9223372036854775808:=Nat.lt_of_le_of_lt (z5d _ _) hh
  refine ways (O:=True) (T:=?T) hcase ?tail ?ha ?hb
  case ha =>
   intro hx tail
   refine VSt.cond rfl (fun _=>?_) (fun g=>absurd (show (q==_)=_ from g) (by rw [hx];decide))
   refine VSt.go za false [78] 200 rfl AllP.n ?_
   refine zb (zP (ps:=[(6,6),(5,5),(3,3),(2,2)]) (F0:=[(4,.ref 2 0),(5,.ref 5 0),(6,nv z),(7,.ref 6 0)]) (L0:=[(6,.cells ((zX (z4D q c (zg h.st z))).map .p) 74),(5,.cells [.sl 3 6 0 h.st.length h.st.length 0,.p (z1F false (zbc q c h.sw))] 25),(3,.arr h.st.length 6 (fS h.st) 74),(2,.cells [.p (.lst 0 true 0 fun _=>[]),.p (.lst 0 true 0 fun _=>[])] 25)]) ⟨rfl,rfl,(by repeat (first | exact zw | refine zq rfl rfl rfl ?_)),_,rfl,⟨rfl,(by rw [hx];exact BImp.refl _),rfl,(by rw [show zbc q c h.sw=h.sw from if_neg (fun g=>absurd g.1 (by rw [hx];decide))];exact BImp.refl _),rfl,BImp.refl _,rfl,BImp.refl _,trivial⟩⟩) ?_
   exact tail trivial
  case hb =>
   intro hx tail
   rcases hx with hx | hx | hx
   ·refine VSt.cond rfl (fun g=>absurd (show (q==_)=_ from g) (by rw [hx];decide)) (fun _=>?_)
    refine VSt.go za false [] 200 rfl AllP.n ?_
    refine VSt.cond rfl (fun _=>?_) (fun g=>absurd (show (q==_)=_ from g) (by rw [hx];decide))
    refine VSt.go za false [78] 200 rfl AllP.n ?_
    refine zb (zP (ps:=[(6,6),(5,5),(3,3),(2,2)]) (F0:=[(4,.ref 2 0),(5,.ref 5 0),(6,nv z),(7,.ref 6 0)]) (L0:=[(6,.cells ((zX (z4D q c (zg h.st z))).map .p) 74),(5,.cells [.sl 3 6 0 h.st.length h.st.length 0,.p (z1F false (zbc q c h.sw))] 25),(3,.arr h.st.length 6 (fS h.st) 74),(2,.cells [.p (.lst 0 true 0 fun _=>[]),.p (.lst 0 true 0 fun _=>[])] 25)]) ⟨rfl,rfl,(by repeat (first | exact zw | refine zq rfl rfl rfl ?_)),_,rfl,⟨rfl,(by rw [hx];exact BImp.refl _),rfl,(by rw [show zbc q c h.sw=h.sw from if_neg (fun g=>absurd g.1 (by rw [hx];decide))];exact BImp.refl _),rfl,BImp.refl _,rfl,BImp.refl _,trivial⟩⟩) ?_
    exact tail trivial
   ·refine VSt.cond rfl (fun g=>absurd (show (q==_)=_ from g) (by rw [hx];decide)) (fun _=>?_)
    refine VSt.go za false [] 200 rfl AllP.n ?_
    refine VSt.cond rfl (fun g=>absurd (show (q==_)=_ from g) (by rw [hx];decide)) (fun _=>?_)
    refine VSt.go za false [] 200 rfl AllP.n ?_
    refine VSt.cond rfl (fun _=>?_) (fun g=>absurd (show (q==_)=_ from g) (by rw [hx];decide))
    refine VSt.go za false [44] 200 rfl (AllP.c (yn _) AllP.n) ?_
    refine z07 41 (nv (zg h.st z).holes.toNat) rfl (z1X hb.h1) ?_
    refine z07 39 (nv (zg h.st z).unsure.toNat) rfl (z1X hb.u1) ?_
    refine VSt.binA rfl rfl rfl rfl rfl (zpU hh) ?_
    refine VSt.go za false [51] 200 rfl (AllP.c ‹_› (AllP.c ‹_› (AllP.c (yn _) AllP.n))) ?_
    refine z07 48 (nv (zg h.st z).holes.toNat) rfl (z1X hb.h1) ?_
    refine VSt.binA rfl rfl rfl rfl rfl (zpT hh) ?_
    refine VSt.go za false [78] 200 rfl AllP.n ?_
    refine zb (zP (ps:=[(6,6),(5,5),(3,3),(2,2)]) (F0:=[(4,.ref 2 0),(5,.ref 5 0),(6,nv z),(7,.ref 6 0)]) (L0:=[(6,.cells ((zX (z4D q c (zg h.st z))).map .p) 74),(5,.cells [.sl 3 6 0 h.st.length h.st.length 0,.p (z1F false (zbc q c h.sw))] 25),(3,.arr h.st.length 6 (fS h.st) 74),(2,.cells [.p (.lst 0 true 0 fun _=>[]),.p (.lst 0 true 0 fun _=>[])] 25)]) ⟨rfl,rfl,(by repeat (first | exact zw | refine zq rfl rfl rfl ?_)),_,rfl,⟨rfl,(by rw [hx];exact BImp.refl _),rfl,(by rw [show zbc q c h.sw=h.sw from if_neg (fun g=>absurd g.1 (by rw [hx];decide))];exact BImp.refl _),rfl,BImp.refl _,rfl,BImp.refl _,trivial⟩⟩) ?_
    exact tail trivial
   ·refine VSt.cond rfl (fun g=>absurd (show (q==_)=_ from g) (by rw [hx];decide)) (fun _=>?_)
    refine VSt.go za false [] 200 rfl AllP.n ?_
    refine VSt.cond rfl (fun g=>absurd (show (q==_)=_ from g) (by rw [hx];decide)) (fun _=>?_)
    refine VSt.go za false [] 200 rfl AllP.n ?_
    refine VSt.cond rfl (fun g=>absurd (show (q==_)=_ from g) (by rw [hx];decide)) (fun _=>?_)
    refine VSt.go za false [] 200 rfl AllP.n ?_
    refine VSt.cond rfl (fun _=>?_) (fun g=>absurd (show (q==_)=_ from g) (by rw [hx];decide))
    refine VSt.go za false [] 200 rfl AllP.n ?_
    refine VSt.cond rfl (fun g=>?_) (fun g=>?_)
    ·have g:=n0 g
     refine VSt.go za false [] 200 rfl (AllP.c (yn _) AllP.n) ?_
     refine VSt.pc rfl rfl rfl rfl rfl rfl rfl rfl ((z3V (x:=c) (m:=Int.ofNat h.sw.length) (by simp only [ym];omega) (by simp only [ym];omega))) ?_
     have hmw:=z0x (x:=c) (m:=Int.ofNat h.sw.length) (by simp only [ym];omega)
     obtain ⟨J,hJ⟩:∃ J,J=(zS c (Int.ofNat h.sw.length)).toNat:=⟨_,rfl⟩
     have hJ1:zS c (Int.ofNat h.sw.length)=Int.ofNat J:=by rw [hJ];exact (Int.toNat_of_nonneg hmw.1).symm
     have hJl:J<h.sw.length:=by
      rw [hJ1] at hmw
      have:=hmw.2
      simp only [ym] at this;omega
     have eW:zbc q c h.sw=h.sw.eraseIdx J:=by
      unfold zbc
      rw [if_pos ⟨hx,g⟩,hJ]
     refine VSt.go za false [65] 200 rfl AllP.n ?_
     refine z0h 8 (nv J) rfl (z1X hJ1) ?_
     by_cases c1:J=0 <;> by_cases c2:J+1=h.sw.length
     ·refine VSt.go za true [74] 200 rfl (AllP.c (by omega) (AllP.c (by omega) (AllP.c (fun _ _=>rfl) (AllP.c ‹_› AllP.n)))) ?_
      refine VSt.go za true [75] 200 rfl (AllP.c (by unfold inR;(try simp only [ym]);omega) AllP.n) ?_
      refine z0h 74 (nv (J+1)) rfl (z1X rfl) ?_
      refine VSt.go za true [78] 200 rfl (AllP.c ‹_› (AllP.c (by omega) (AllP.c (fun _ _=>rfl) (AllP.c (by omega) AllP.n)))) ?_
      refine zb (Vw.freeze 7 rfl rfl (by (repeat (first | exact AllP.n | refine AllP.c (by first | assumption | rfl | omega | exact yn _ | (show 0<_;omega) | (show 1<_;omega) | (show 2<_;omega) | (show 3<_;omega) | (intro _ _;rfl) | (intro q hq;match q,hq with | 0,_=>rfl) | (unfold inR;(try simp only [ym]);omega)) ?_)))) ?_
      refine zb (zP (ps:=[(6,6),(5,5),(3,3),(2,2)]) (F0:=[(4,.ref 2 0),(5,.ref 5 0),(6,nv z),(7,.ref 6 0)]) (L0:=[(6,.cells ((zX (z4D q c (zg h.st z))).map .p) 74),(5,.cells [.sl 3 6 0 h.st.length h.st.length 0,.p (z1F false (zbc q c h.sw))] 25),(3,.arr h.st.length 6 (fS h.st) 74),(2,.cells [.p (.lst 0 true 0 fun _=>[]),.p (.lst 0 true 0 fun _=>[])] 25)]) ⟨rfl,rfl,(by repeat (first | exact zw | refine zq rfl rfl rfl ?_)),_,rfl,⟨rfl,(by rw [hx];exact BImp.refl _),rfl,BImp.cells ⟨AImp.refl _,?_,trivial⟩,rfl,BImp.refl _,rfl,BImp.refl _,trivial⟩⟩) ?_
      ·rw [eW]
       refine z5S hJl (by omega) (fun k hk=>?_)
       omega
      exact tail trivial
     ·have k4:0<h.sw.length - (J+1):=by omega
      refine VSt.go za true [74] 200 rfl (AllP.c (by omega) (AllP.c (by omega) (AllP.c (fun _ _=>rfl) (AllP.c ‹_› AllP.n)))) ?_
      refine VSt.go za false [75] 200 rfl (AllP.c (by unfold inR;(try simp only [ym]);omega) AllP.n) ?_
      refine z0h 74 (nv (J+1)) rfl (z1X rfl) ?_
      refine VSt.go za false [78] 200 rfl (AllP.c ‹_› (AllP.c (by omega) (AllP.c (fun _ _=>rfl) (AllP.c ‹_› (AllP.c (by omega) (AllP.c (fun _ _=>rfl) (AllP.c rfl (AllP.c rfl (AllP.c (by omega) (AllP.c (by omega) AllP.n)))))))))) ?_
      refine zb (Vw.freeze 8 rfl rfl (by (repeat (first | exact AllP.n | refine AllP.c (by first | assumption | rfl | omega | exact yn _ | (show 0<_;omega) | (show 1<_;omega) | (show 2<_;omega) | (show 3<_;omega) | (intro _ _;rfl) | (intro q hq;match q,hq with | 0,_=>rfl) | (unfold inR;(try simp only [ym]);omega)) ?_)))) ?_
      refine zb (zP (ps:=[(6,6),(5,5),(3,3),(2,2)]) (F0:=[(4,.ref 2 0),(5,.ref 5 0),(6,nv z),(7,.ref 6 0)]) (L0:=[(6,.cells ((zX (z4D q c (zg h.st z))).map .p) 74),(5,.cells [.sl 3 6 0 h.st.length h.st.length 0,.p (z1F false (zbc q c h.sw))] 25),(3,.arr h.st.length 6 (fS h.st) 74),(2,.cells [.p (.lst 0 true 0 fun _=>[]),.p (.lst 0 true 0 fun _=>[])] 25)]) ⟨rfl,rfl,(by repeat (first | exact zw | refine zq rfl rfl rfl ?_)),_,rfl,⟨rfl,(by rw [hx];exact BImp.refl _),rfl,BImp.cells ⟨AImp.refl _,?_,trivial⟩,rfl,BImp.refl _,rfl,BImp.refl _,trivial⟩⟩) ?_
      ·rw [eW]
       refine z5S hJl (by omega) (fun k hk=>?_)
       rw [if_neg (by omega)]
       show fW h.sw (J+1+(0+k - 0))=_
       congr 1;omega
      exact tail trivial
     ·have k1:0<J:=by omega
      refine VSt.go za false [74] 200 rfl (AllP.c (by omega) (AllP.c (by omega) (AllP.c (fun _ _=>rfl) (AllP.c ‹_› (AllP.c (by omega) (AllP.c (fun _ _=>rfl) (AllP.c rfl (AllP.c rfl (AllP.c (by omega) (AllP.c (by omega) AllP.n)))))))))) ?_
      refine VSt.go za false [75] 200 rfl (AllP.c (by unfold inR;(try simp only [ym]);omega) AllP.n) ?_
      refine z0h 74 (nv (J+1)) rfl (z1X rfl) ?_
      refine VSt.go za true [78] 200 rfl (AllP.c ‹_› (AllP.c (by omega) (AllP.c (fun _ _=>rfl) (AllP.c (by omega) AllP.n)))) ?_
      refine zb (Vw.freeze 8 rfl rfl (by (repeat (first | exact AllP.n | refine AllP.c (by first | assumption | rfl | omega | exact yn _ | (show 0<_;omega) | (show 1<_;omega) | (show 2<_;omega) | (show 3<_;omega) | (intro _ _;rfl) | (intro q hq;match q,hq with | 0,_=>rfl) | (unfold inR;(try simp only [ym]);omega)) ?_)))) ?_
      refine zb (zP (ps:=[(6,6),(5,5),(3,3),(2,2)]) (F0:=[(4,.ref 2 0),(5,.ref 5 0),(6,nv z),(7,.ref 6 0)]) (L0:=[(6,.cells ((zX (z4D q c (zg h.st z))).map .p) 74),(5,.cells [.sl 3 6 0 h.st.length h.st.length 0,.p (z1F false (zbc q c h.sw))] 25),(3,.arr h.st.length 6 (fS h.st) 74),(2,.cells [.p (.lst 0 true 0 fun _=>[]),.p (.lst 0 true 0 fun _=>[])] 25)]) ⟨rfl,rfl,(by repeat (first | exact zw | refine zq rfl rfl rfl ?_)),_,rfl,⟨rfl,(by rw [hx];exact BImp.refl _),rfl,BImp.cells ⟨AImp.refl _,?_,trivial⟩,rfl,BImp.refl _,rfl,BImp.refl _,trivial⟩⟩) ?_
      ·rw [eW]
       refine z5S hJl (by omega) (fun k hk=>?_)
       rw [if_pos (by omega)]
       show fW h.sw (0+(0+k - 0))=_
       congr 1;omega
      exact tail trivial
     ·have k1:0<J:=by omega
      have k2:J≤h.sw.length:=by omega
      have k3:J+1≤h.sw.length:=by omega
      have k4:0<h.sw.length - (J+1):=by omega
      refine VSt.go za false [74] 200 rfl (AllP.c (by omega) (AllP.c ‹_› (AllP.c (fun _ _=>rfl) (AllP.c ‹_› (AllP.c (by omega) (AllP.c (fun _ _=>rfl) (AllP.c rfl (AllP.c rfl (AllP.c (by omega) (AllP.c (by omega) AllP.n)))))))))) ?_
      refine VSt.go za false [75] 200 rfl (AllP.c (by unfold inR;(try simp only [ym]);omega) AllP.n) ?_
      refine z0h 74 (nv (J+1)) rfl (z1X rfl) ?_
      refine VSt.go za false [78] 200 rfl (AllP.c ‹_› (AllP.c (by omega) (AllP.c (fun _ _=>rfl) (AllP.c ‹_› (AllP.c (by omega) (AllP.c (fun _ _=>rfl) (AllP.c rfl (AllP.c rfl (AllP.c (by omega) (AllP.c (by omega) AllP.n)))))))))) ?_
      refine zb (Vw.freeze 9 rfl rfl (by (repeat (first | exact AllP.n | refine AllP.c (by first | assumption | rfl | omega | exact yn _ | (show 0<_;omega) | (show 1<_;omega) | (show 2<_;omega) | (show 3<_;omega) | (intro _ _;rfl) | (intro q hq;match q,hq with | 0,_=>rfl) | (unfold inR;(try simp only [ym]);omega)) ?_)))) ?_
      refine zb (zP (ps:=[(6,6),(5,5),(3,3),(2,2)]) (F0:=[(4,.ref 2 0),(5,.ref 5 0),(6,nv z),(7,.ref 6 0)]) (L0:=[(6,.cells ((zX (z4D q c (zg h.st z))).map .p) 74),(5,.cells [.sl 3 6 0 h.st.length h.st.length 0,.p (z1F false (zbc q c h.sw))] 25),(3,.arr h.st.length 6 (fS h.st) 74),(2,.cells [.p (.lst 0 true 0 fun _=>[]),.p (.lst 0 true 0 fun _=>[])] 25)]) ⟨rfl,rfl,(by repeat (first | exact zw | refine zq rfl rfl rfl ?_)),_,rfl,⟨rfl,(by rw [hx];exact BImp.refl _),rfl,BImp.cells ⟨AImp.refl _,?_,trivial⟩,rfl,BImp.refl _,rfl,BImp.refl _,trivial⟩⟩) ?_
      ·rw [eW]
       refine z5S hJl (by omega) (fun k hk=>?_)
       show (bif Nat.blt (0+k) (0+(J - 0)) then fW h.sw (0+(0+(0+k) - 0)) else fW h.sw (J+1+(0+k - (0+(J - 0)))))=_
       by_cases ck:k<J
       ·rw [if_pos ck,show Nat.blt (0+k) (0+(J - 0))=true from zjm (by omega)]
        show fW h.sw (0+(0+(0+k) - 0))=_
        congr 1;omega
       ·rw [if_neg ck,show Nat.blt (0+k) (0+(J - 0))=false from zjn (by omega)]
        show fW h.sw (J+1+(0+k - (0+(J - 0))))=_
        congr 1;omega
      exact tail trivial
    ·have g:=n0' g
     refine VSt.go za false [78] 200 rfl AllP.n ?_
     refine zb (zP (ps:=[(6,6),(5,5),(3,3),(2,2)]) (F0:=[(4,.ref 2 0),(5,.ref 5 0),(6,nv z),(7,.ref 6 0)]) (L0:=[(6,.cells ((zX (z4D q c (zg h.st z))).map .p) 74),(5,.cells [.sl 3 6 0 h.st.length h.st.length 0,.p (z1F false (zbc q c h.sw))] 25),(3,.arr h.st.length 6 (fS h.st) 74),(2,.cells [.p (.lst 0 true 0 fun _=>[]),.p (.lst 0 true 0 fun _=>[])] 25)]) ⟨rfl,rfl,(by repeat (first | exact zw | refine zq rfl rfl rfl ?_)),_,rfl,⟨rfl,(by rw [hx];exact BImp.refl _),rfl,(by rw [show zbc q c h.sw=h.sw from if_neg (fun g2=>absurd g2.2 (by omega))];exact BImp.refl _),rfl,BImp.refl _,rfl,BImp.refl _,trivial⟩⟩) ?_
     exact tail trivial
  case tail =>
   rintro -
   refine VSt.go za false [83] 200 rfl (AllP.c ‹_› (AllP.c rfl (AllP.c (by omega) (AllP.c rfl (AllP.c (yn _) AllP.n))))) ?_
   refine zb (Vw.freeze 3 rfl rfl (by (repeat (first | exact AllP.n | refine AllP.c (by first | assumption | rfl | omega | exact yn _ | (show 0<_;omega) | (show 1<_;omega) | (show 2<_;omega) | (show 3<_;omega) | (intro _ _;rfl) | (intro q hq;match q,hq with | 0,_=>rfl) | (unfold inR;(try simp only [ym]);omega)) ?_)))) ?_
   refine VSt.go za false [] 200 rfl AllP.n ?_
   refine ⟨rfl,_,rfl,rfl,?_⟩
   refine AImp.agg ⟨?_,AImp.refl _,trivial⟩
   unfold z0E
   rw [List.length_set]
   refine AImp.lst fun k hk=>?_
   show (bif Nat.beq (0+k) (0+z) then z9s (fS h.st (0+z)) 0 (zX (z4D q c (zg h.st z))) else fS h.st (0+k))=zX (zg (h.st.set z (z4D q c (zg h.st z))) k)
   rw [zhv _ _ _ _ hk,Nat.zero_add,Nat.zero_add]
   by_cases e:k=z
   ·subst e
    rw [if_pos rfl,show Nat.beq k k=true from Nat.beq_refl _];rfl
   ·rw [if_neg e,zjl e];rfl
def eqW (x y:Sew):Bool:=(x.fro==y.fro)&&((x.too==y.too)&&true)
theorem z9I {b:Bool} {l:List Sew} {x:Sew} (hl:l.length<9223372036854775808):VP (sE r) 35 [.p (z1F b l),.agg ((zdR x).map .p)] (bv (l.any fun y=>eqW y x)):=by
 refine VP.of (fn:=Tryz.f35) za (zK rfl) (by kernel_rfl) rfl rfl rfl ?_
 refine VSt.go za false [] 200 rfl AllP.n ?_
 refine zm (zk 0 (zdR x) rfl rfl) ?_
 refine z1V (ti:=5) l.length [0,3] (fun _=>[]) (fun _=>[]) (fun k=>∀ q,q<k→eqW (zD l q) x=false) rfl rfl z1P trivial none0 (fun k hk hp=>?_)
 refine VSt.go za false [] 200 rfl AllP.n ?_
 refine VSt.cond rfl (fun g=>?_) (fun g=>?_)
 ·have g:=nlt g
  refine VSt.go za false [] 200 rfl (AllP.c ‹_› (AllP.c rfl AllP.n)) ?_
  refine VSt.cond rfl (fun h1=>?_) (fun h1=>?_)
  ·refine VSt.go za false [] 200 rfl AllP.n ?_
   refine EndsP.mk rfl rfl rfl ?_
   have h1:eqW (zD l k) x=true:=h1
   rw [ze3 (p:=fun y=>eqW y x) g h1];rfl
  ·refine VSt.go za false [] 200 rfl (AllP.c (by unfold inR;(try simp only [ym]);omega) AllP.n) ?_
   exact ⟨g,by (refine Vw.drop (by repeat (first | exact zw | refine zq rfl rfl rfl ?_ | refine z0k rfl ‹_› (z06 _ ‹_›) ?_))),z11 hp h1⟩
 ·have g:k=l.length:=by have:=nge g;omega
  subst g
  refine VSt.go za false [] 200 rfl AllP.n ?_
  refine EndsP.mk rfl rfl rfl ?_
  rw [zb8 (p:=fun y=>eqW y x) hp];rfl
theorem eqW_iff {x y:Sew}:eqW x y=true ↔ x=y:=by
 cases x;cases y
 unfold eqW
 rw [yx,Bool.and_true,beq_iff_eq,beq_iff_eq]
 exact ⟨fun ⟨h1,h2⟩=>by cases h1;cases h2;rfl,fun h=>by cases h;exact ⟨rfl,rfl⟩⟩
theorem any_eqW {l:List Sew} {x:Sew}:(l.any fun y=>eqW y x)=true ↔ x∈l:=by
 rw [List.any_eq_true]
 exact ⟨fun ⟨y,h1,h2⟩=>eqW_iff.1 h2 ▸ h1,fun h=>⟨x,h,eqW_iff.2 rfl⟩⟩
theorem zet {l m:List (Int×Int)} (h:∀ x,x∈l→x∈m):∀ x,x∈zd7 l→x∈zd7 m:=fun x hx=>by
 obtain ⟨y,h1,rfl⟩:=List.mem_map.1 hx
 exact List.mem_map.2 ⟨y,h y h1,rfl⟩
theorem zbM {h:Hp} {p:Int} (e:ppE h p=0) (hl:0<(zC h p).length):z98 h p=0:=by
 unfold z98;rw [if_pos e,if_pos hl]
theorem zkH {h:Hp} {p:Int} {m:Nat} (hm:m<(zC h p).length):zg1 h p m∈ordI h p:=by
 rw [zdo (List.getElem?_eq_getElem hm)]
 exact List.mem_map.2 ⟨_,List.getElem_mem hm,rfl⟩
theorem zhj {h:Hp} {p:Int} (hO:OkH h):(zgC h p).length<9223372036854775808∧(zgD h p).length<9223372036854775808:=by
 obtain ⟨h1,h2⟩:=zaU (p:=p) hO
 have hat:∀ n,(zd7 (atC (zgF h p) n)).length≤1000000:=fun n=>by
  unfold zd7 atC
  rw [List.length_map,(z1h _).length_eq,List.length_map]
  exact yo (List.length_filter_le _ _) h2
 have a1:=hat (Int.ofNat (zC h p).length)
 have a2:=hat 1
 constructor
 ·unfold zgC
  by_cases e:z98 h p=0
  ·rw [if_pos e];unfold zmC;omega
  ·rw [if_neg e];decide
 ·unfold zgD
  by_cases e:z98 h p=0
  ·rw [if_pos e];unfold znn;omega
  ·rw [if_neg e];decide
theorem zqy (R:Raw):SzH (mdH R):=zp6 (zkN R) (fun h=>List.isEmpty_iff.1 h) (fun h=>List.isEmpty_iff.1 h)
theorem zpy {h:Hp} {a b c:Int} (n:OkH (z9g h a b c)):SzH (z9g h a b c):=by
 refine zp6 n (fun g=>?_) (fun g=>?_) <;> (unfold z9g at g;split at g <;> cases g)
set_option maxHeartbeats 8000000 in
theorem zc2 {t:Tr (List Value×TypeId)} {R:Raw} {a b c which:Int} (hR:SzR R):VP (sE (t,true)) 7 [.agg ((zm7 R).map .p),.agg [iv a,iv b,iv c],iv which] (bv true):=by
 have hM:=zkN R
 have hL:=zl8 hM a b c
 have hD:=hL.okd
 have hz:=zqy R
 have hzd:=zpy hD
 have hpp:=zp7 hM
 have hpd:=zp7 hD
 have hpos:=zpc R
 have hcnt:=hL.count (p:=3)
 have eo:=zbM hpp hpos
 have eod:=zbM hpd (yu hpos hcnt)
 have hs:∀ x,x∈zgC (z9g (mdH R) a b c) 3→x∈zgC (mdH R) 3:=by
  unfold zgC
  rw [if_pos eo,if_pos eod]
  exact zet fun y hy=>hL.sure hpos hy
 have hy:∀ x,x∈zgD (mdH R) 3→x∈zgD (z9g (mdH R) a b c) 3:=by
  unfold zgD
  rw [if_pos eo,if_pos eod]
  exact zet fun y hy=>hL.some hy
 obtain ⟨l1,l2⟩:=zhj (p:=3) hM
 obtain ⟨l3,l4⟩:=zhj (p:=3) hD
 have hle:min (zC (mdH R) 3).length 1000≤min (zC (z9g (mdH R) a b c) 3).length 1000:=by omega
 have h1:0<min (zC (mdH R) 3).length 1000:=by omega
 have hmr:=z0x (x:=which) (m:=Int.ofNat (min (zC (mdH R) 3).length 1000)) (by simp only [ym];omega)
 obtain ⟨q,hq⟩:∃ q:Nat,zS which (Int.ofNat (min (zC (mdH R) 3).length 1000))=Int.ofNat q:=⟨_,(Int.toNat_of_nonneg hmr.1).symm⟩
 have hq2:q<min (zC (mdH R) 3).length 1000:=by
  rw [hq] at hmr
  have:=hmr.2
  simp only [ym] at this;omega
 have c0:=zoe (r:=(t,true)) hR
 have c1:=zjM (r:=(t,true)) (a:=a) (b:=b) (c:=c) hM
 have c2:=zfx (r:=(t,true)) (p:=3) hz
 have c3:=zfx (r:=(t,true)) (p:=3) hzd
 have c5:=zq2 (r:=(t,true)) (p:=3) (n:=Int.ofNat q) hz
 have c6:=zjJ (r:=(t,true)) (p:=3) hz
 have c7:=zjJ (r:=(t,true)) (p:=3) hzd
 have c8:=zmk (r:=(t,true)) (p:=3) hz
 have c9:=zmk (r:=(t,true)) (p:=3) hzd
 have c10:=zbb (r:=(t,true)) (p:=3) (b:=(zg1 (mdH R) 3 q).isEmpty) (o:=zg1 (mdH R) 3 q) hzd (zkI hM)
 rw [znX hpd (hL.ordI (zkH (by omega)))] at c10
 obtain ⟨n1,n2⟩:=zdp (h:=mdH R) (p:=3) (n:=Int.ofNat q) hpp (by
  rw [yx,wth_iff,decide_eq_true_iff]
  simp only [ym];omega)
 rw [n1,n2] at c5
 rw [hpp] at c2
 rw [hpd] at c3
 rw [show zpC (mdH R) 3=Int.ofNat (min (zC (mdH R) 3).length 1000) from if_pos hpp] at c2
 rw [show zpC (z9g (mdH R) a b c) 3=Int.ofNat (min (zC (z9g (mdH R) a b c) 3).length 1000) from if_pos hpd] at c3
 rw [eo] at c6 c8
 rw [eod] at c7 c9
 have c4:=z3V (r:=(t,true)) (x:=which) (m:=Int.ofNat (min (zC (mdH R) 3).length 1000)) (by simp only [ym];omega) (by simp only [ym];omega)
 rw [hq] at c4
 have hM5:min (zC (mdH R) 3).length 1000<9223372036854775808:=by omega
 have hN5:min (zC (z9g (mdH R) a b c) 3).length 1000<9223372036854775808:=by omega
 generalize min (zC (mdH R) 3).length 1000=m at *
 generalize min (zC (z9g (mdH R) a b c) 3).length 1000=n at *
 refine VP.of (fn:=Tryz.f7) za (zK rfl) (by kernel_rfl) rfl rfl rfl ?_
 refine VSt.go za false [] 200 rfl AllP.n ?_
 refine zb (zk 0 (zm7 R) rfl rfl) ?_
 refine zb (zk 1 [.int .i64 a,.int .i64 b,.int .i64 c] rfl rfl) ?_
 refine VSt.go za false [] 200 rfl AllP.n ?_
 refine VSt.pc rfl rfl rfl rfl rfl rfl rfl rfl (c0) ?_
 refine VSt.go za false [] 200 rfl AllP.n ?_
 refine VSt.pc rfl rfl rfl rfl rfl rfl rfl rfl (c1) ?_
 refine VSt.go za false [] 200 rfl AllP.n ?_
 refine VSt.pc rfl rfl rfl rfl rfl rfl rfl rfl (c2) ?_
 refine VSt.go za false [] 200 rfl AllP.n ?_
 refine VSt.pc rfl rfl rfl rfl rfl rfl rfl rfl (c3) ?_
 refine VSt.go za false [] 200 rfl AllP.n ?_
 refine zi 46 rfl (fun q=>?_) (fun q=>?_)
 ·exact absurd q (by decide)
 refine VSt.go za false [] 200 rfl AllP.n ?_
 refine zi 50 rfl (fun q=>?_) (fun q=>?_)
 ·exact absurd q (by decide)
 refine VSt.go za false [] 200 rfl AllP.n ?_
 refine zi 54 rfl (fun q=>?_) (fun q=>?_)
 ·exact absurd (of_decide_eq_true (show decide (Int.ofNat m<1)=true from q)) (by simp only [ym];omega)
 refine VSt.go za false [] 200 rfl AllP.n ?_
 refine VSt.cond rfl (fun q=>?_) (fun _=>?_)
 ·exact absurd (of_decide_eq_true (show decide (Int.ofNat n<Int.ofNat m)=true from q)) (by simp only [ym];omega)
 refine VSt.go za false [] 200 rfl AllP.n ?_
 refine z2z rfl rfl rfl rfl rfl rfl rfl rfl (c4) ?_
 refine VSt.go za false [] 200 rfl AllP.n ?_
 refine z2z rfl rfl rfl rfl rfl rfl rfl rfl (c5) ?_
 refine VSt.go za false [] 200 rfl AllP.n ?_
 refine VSt.pc rfl rfl rfl rfl rfl rfl rfl rfl (c6) ?_
 refine VSt.go za false [] 200 rfl AllP.n ?_
 refine VSt.pc rfl rfl rfl rfl rfl rfl rfl rfl (c7) ?_
 refine VSt.go za false [] 200 rfl AllP.n ?_
 refine VSt.pc rfl rfl rfl rfl rfl rfl rfl rfl (c8) ?_
 refine VSt.go za false [] 200 rfl AllP.n ?_
 refine VSt.pc rfl rfl rfl rfl rfl rfl rfl rfl (c9) ?_
 refine VSt.go za false [] 200 rfl AllP.n ?_
 refine zi 89 rfl (fun q=>?_) (fun q=>?_)
 ·exact absurd q (by decide)
 refine VSt.go za false [] 200 rfl AllP.n ?_
 refine zi 93 rfl (fun q=>?_) (fun q=>?_)
 ·exact absurd q (by decide)
 refine VSt.go za false [] 200 rfl AllP.n ?_
 refine zi 97 rfl (fun q=>?_) (fun q=>?_)
 ·exact absurd q (by decide)
 refine VSt.go za false [] 200 rfl AllP.n ?_
 refine zi 101 rfl (fun q=>?_) (fun q=>?_)
 ·exact absurd q (by decide)
 refine VSt.go za false [] 200 rfl AllP.n ?_
 refine zi 105 rfl (fun q=>?_) (fun q=>?_)
 ·exact absurd q (by decide)
 refine VSt.go za false [] 200 rfl AllP.n ?_
 refine VSt.pc rfl rfl rfl rfl rfl rfl rfl rfl (c10) ?_
 refine VSt.go za false [] 200 rfl AllP.n ?_
 refine VSt.cond rfl (fun q=>absurd q (by decide)) (fun _=>?_)
 refine VSt.go za false [] 200 rfl AllP.n ?_
 refine zm (Vw.kp [16,18,20,22,24] [] rfl) ?_
 refine z1V (ti:=24) (zgC (z9g (mdH R) a b c) 3).length [16,18,20,22] (fun _=>[]) (fun _=>[]) (fun k=>True) rfl rfl z1P trivial trivial (fun k hk _=>?_)
 refine VSt.go za false [] 200 rfl AllP.n ?_
 refine VSt.cond rfl (fun g=>?_) (fun g=>?_)
 ·have g:=nlt g
  refine VSt.go za false [] 200 rfl (AllP.c ‹_› (AllP.c rfl AllP.n)) ?_
  refine VSt.pc rfl rfl rfl rfl rfl rfl rfl rfl ((z9I (l:=zgC (mdH R) 3) (x:=zD (zgC (z9g (mdH R) a b c) 3) k) l1)) ?_
  rw [any_eqW.2 (hs _ (show zD (zgC (z9g (mdH R) a b c) 3) k∈_ from z05 g))]
  refine VSt.go za false [] 200 rfl AllP.n ?_
  refine VSt.cond rfl (fun q=>absurd q (by decide)) (fun _=>?_)
  refine VSt.go za false [] 200 rfl (AllP.c (by unfold inR;(try simp only [ym]);omega) AllP.n) ?_
  exact ⟨g,by (refine Vw.drop (by repeat (first | exact zw | refine zq rfl rfl rfl ?_ | refine z0k rfl ‹_› (z06 _ ‹_›) ?_))),trivial⟩
 refine VSt.go za false [] 200 rfl AllP.n ?_
 refine z1V (ti:=25) (zgD (mdH R) 3).length [20,22] (fun _=>[]) (fun _=>[]) (fun k=>True) rfl rfl z1P trivial trivial (fun k hk _=>?_)
 refine VSt.go za false [] 200 rfl AllP.n ?_
 refine VSt.cond rfl (fun g=>?_) (fun g=>?_)
 ·have g:=nlt g
  refine VSt.go za false [] 200 rfl (AllP.c ‹_› (AllP.c rfl AllP.n)) ?_
  refine VSt.pc rfl rfl rfl rfl rfl rfl rfl rfl ((z9I (l:=zgD (z9g (mdH R) a b c) 3) (x:=zD (zgD (mdH R) 3) k) l4)) ?_
  rw [any_eqW.2 (hy _ (show zD (zgD (mdH R) 3) k∈_ from z05 g))]
  refine VSt.go za false [] 200 rfl AllP.n ?_
  refine VSt.cond rfl (fun q=>absurd q (by decide)) (fun _=>?_)
  refine VSt.go za false [] 200 rfl (AllP.c (by unfold inR;(try simp only [ym]);omega) AllP.n) ?_
  exact ⟨g,by (refine Vw.drop (by repeat (first | exact zw | refine zq rfl rfl rfl ?_ | refine z0k rfl ‹_› (z06 _ ‹_›) ?_))),trivial⟩
 refine VSt.go za false [] 200 rfl AllP.n ?_
 refine VSt.pc rfl rfl rfl rfl rfl rfl rfl rfl ((zlz rfl)) ?_
 refine VSt.go za false [] 200 rfl AllP.n ?_
 exact EndsP.mk rfl rfl rfl rfl
end
section
noncomputable abbrev sE0:Env:=sE (.nil,true)
theorem z6w:∀ l:List PV,PImps l l
 | []=>trivial
 | a::l=>⟨PImp.refl a,z6w l⟩
theorem z6Q {n:Nat} {q:List PV} (h:Sh sE0 (n+1) 3 q):∃ x,q=[.int .i64 x]∧inR x:=by
 obtain ⟨x,h,h2,h3⟩:=Sh.int (k:=.i64) (by kernel_rfl) h
 have h2 : -9223372036854775808≤x:=h2
 have h3:x≤9223372036854775807:=h3
 exact ⟨x,h,h2,by omega⟩
theorem Sh.array {E:Env} {n:Nat} {t:TypeId} {qs:List PV} {sz w m:Nat} {e:TypeId} (hi:(E.ti.get t).map (fun i=>(i.size,i.desc))=some (sz,.array m e)) (he:(E.ti.get e).map (·.size)=some w) (h:Sh E (n+1) t qs):qs.length=sz∧∀ k,k<m→Sh E n e ((qs.drop (k*w)).take w):=by
 unfold Sh at h
 cases hg:E.ti.get t with
 | none=>rw [hg] at hi;cases hi
 | some i =>
  rw [hg] at hi h
  have hi:(i.size,i.desc)=(sz,.array m e):=Option.some.inj hi
  simp only [Prod.mk.injEq] at hi
  obtain ⟨h1,h2⟩:=hi
  simp only [h2] at h
  obtain ⟨h3,g,h4,h5⟩:=h
  rw [h4] at he
  have he:g.size=w:=Option.some.inj he
  subst he
  exact ⟨h3.trans h1,h5⟩
theorem zcG {n:Nat} {q:List PV} (h:Sh sE0 (n+2) 66 q):∃ x y z,q=[.int .i64 x,.int .i64 y,.int .i64 z]:=by
 obtain ⟨h1,h2⟩:=Sh.array (sz:=3) (w:=1) (m:=3) (e:=3) (by kernel_rfl) (by kernel_rfl) h
 match q,h1 with
 | [a,b,c],_ =>
  obtain ⟨x,h3,_⟩:=z6Q (h2 0 (by decide))
  obtain ⟨y,h4,_⟩:=z6Q (h2 1 (by decide))
  obtain ⟨z,h5,_⟩:=z6Q (h2 2 (by decide))
  have h3:[a]=[.int .i64 x]:=h3
  have h4:[b]=[.int .i64 y]:=h4
  have h5:[c]=[.int .i64 z]:=h5
  cases h3;cases h4;cases h5
  exact ⟨x,y,z,rfl⟩
theorem Shs.two {E:Env} {n:Nat} {a b:TypeId}:∀ {qs:List (List PV)},Shs E n [a,b] qs→∃ q1 q2,qs=[q1,q2]∧Sh E n a q1∧Sh E n b q2
 | [],h=>h.elim
 | [_],h=>h.2.elim
 | [q1,q2],h=>⟨q1,q2,rfl,h.1,h.2.1⟩
 | _::_::_::_,h=>h.2.2.elim
theorem Shs.three {E:Env} {n:Nat} {a b c:TypeId}:∀ {qs:List (List PV)},Shs E n [a,b,c] qs→∃ q1 q2 q3,qs=[q1,q2,q3]∧Sh E n a q1∧Sh E n b q2∧Sh E n c q3
 | [],h=>h.elim
 | [_],h=>h.2.elim
 | [_,_],h=>h.2.2.elim
 | [q1,q2,q3],h=>⟨q1,q2,q3,rfl,h.1,h.2.1,h.2.2.1⟩
 | _::_::_::_::_,h=>h.2.2.2.elim
theorem PImps.one {q:List PV} {p0:PV}:PImps q [p0]→∃ p,q=[p]∧PImp p p0:=match q with
 | []=>fun h=>h.elim
 | [p]=>fun h=>⟨p,rfl,h.1⟩
 | _::_::_=>fun h=>h.2.elim
theorem PImps.two {q:List PV} {p0 p1:PV}:PImps q [p0,p1]→∃ a b,q=[a,b]∧PImp a p0∧PImp b p1:=match q with
 | []=>fun h=>h.elim
 | [p]=>fun h=>h.2.elim
 | [a,b]=>fun h=>⟨a,b,rfl,h.1,h.2.1⟩
 | _::_::_::_=>fun h=>h.2.2.elim
end
section
open Go.ChangeShapes Go.WideShapes Go.RowKit
theorem zlk {H:Type} (d:DataW H):1≤Rows.uptoBulk d:=by
 cases d with
 | lit l=>cases l <;> simp [Rows.uptoBulk]
 | nil=>simp [Rows.uptoBulk]
 | ptr d=>simp [Rows.uptoBulk]
 | slice elems spare=>simp [Rows.uptoBulk]
 | agg parts=>simp [Rows.uptoBulk]
 | iface t d=>simp [Rows.uptoBulk]
 | map entries=>simp [Rows.uptoBulk]
 | held h=>simp [Rows.uptoBulk]
theorem zcD {H:Type} {d:DataW H} {l:List (DataW H)} (h:d∈l):Rows.uptoBulk d≤Rows.uptoBulkAll l:=by
 induction l with
 | nil=>cases h
 | cons x r ih =>
  simp only [Rows.uptoBulkAll]
  cases List.mem_cons.1 h with
  | inl e=>subst e;omega
  | inr e=>have:=ih e;omega
theorem zll {H:Type} (l:List (DataW H)):l.length≤Rows.uptoBulkAll l:=by
 induction l with
 | nil=>simp [Rows.uptoBulkAll]
 | cons x r ih=>have:=zlk x;simp only [Rows.uptoBulkAll,List.length_cons];omega
theorem zgl {H:Type} {ds:List (DataW H)} (h:Rows.uptoSmall H ds=true) (parts els sp:List (DataW H)) (hp:DataW.agg parts∈ds) (hm:DataW.slice els sp∈parts):els.length≤1048576:=by
 have h1:Rows.uptoBulkAll ds≤1048576:=of_decide_eq_true h
 have h2:=zcD hp
 have h3:=zcD hm
 have h4:Rows.uptoBulk (DataW.slice els sp)=Rows.uptoBulkAll els+Rows.uptoBulkAll sp+1:=by simp only [Rows.uptoBulk]
 have h5:Rows.uptoBulk (DataW.agg parts)=Rows.uptoBulkAll parts+1:=by simp only [Rows.uptoBulk]
 have h6:=zll els
 omega
theorem zcH {n:Nat} {q:List PV} (h:Sh sE0 (n+2) 37 q):∃ (b:Bool) (l:List Int) (f:Nat→List PV),q=[.lst 3 b l.length f]∧PImp (.lst 3 b l.length f) (z4f b l)∧l.length<9223372036854775808:=by
 obtain ⟨nb,m,f,rfl,h1,h2,h3⟩:=Sh.slice (e:=3) (by kernel_rfl) h
 obtain ⟨l,rfl,h4⟩:=zaA (0:Int) (P:=fun k x=>f k=[.int .i64 x]) fun k hk=>let ⟨x,h,_⟩:=Sh.int (k:=.i64) (by kernel_rfl) (h3 k hk);⟨x,h⟩
 exact ⟨nb,l,f,rfl,PImp.lst fun k hk=>by rw [h4 k hk];exact ⟨PImp.refl _,trivial⟩,h2⟩
theorem zls {n:Nat} {q:List PV} (h:Sh sE0 (n+2) 52 q):∃ x:Int×Int,q=YtdpipdniklognaaGreat.e2 x:=by
 obtain ⟨h1,h2⟩:=Sh.array (sz:=2) (w:=1) (m:=2) (e:=3) (by kernel_rfl) (by kernel_rfl) h
 match q,h1 with
 | [a,b],_ =>
  obtain ⟨x,h3,_⟩:=z6Q (h2 0 (by decide))
  obtain ⟨y,h4,_⟩:=z6Q (h2 1 (by decide))
  have h3:[a]=[.int .i64 x]:=h3
  have h4:[b]=[.int .i64 y]:=h4
  cases h3;cases h4
  exact ⟨(x,y),rfl⟩
theorem zjz {n:Nat} {q:List PV} (h:Sh sE0 (n+3) 49 q):∃ (b:Bool) (l:List (Int×Int)),PImps q [.lst 52 b l.length (fun k=>YtdpipdniklognaaGreat.e2 (l.getD k (0,0)))]∧l.length<9223372036854775808:=by
 obtain ⟨nb,m,f,rfl,h1,h2,h3⟩:=Sh.slice (e:=52) (by kernel_rfl) h
 obtain ⟨l,rfl,h4⟩:=zaA ((0,0):Int×Int) (P:=fun k x=>f k=YtdpipdniklognaaGreat.e2 x) fun k hk=>zls (h3 k hk)
 exact ⟨nb,l,⟨PImp.lst fun k hk=>by rw [h4 k hk];exact z6w _,trivial⟩,h2⟩
theorem zlr {n:Nat} {q:List PV} (h:Sh sE0 (n+2) 66 q):∃ x:Int×Int×Int,q=YtdpipdniklognaaGreat.e3 x:=by
 obtain ⟨x,y,z,e⟩:=zcG h
 exact ⟨(x,y,z),e⟩
theorem zjy {n:Nat} {q:List PV} (h:Sh sE0 (n+3) 48 q):∃ (b:Bool) (l:List (Int×Int×Int)),PImps q [.lst 66 b l.length (fun k=>YtdpipdniklognaaGreat.e3 (l.getD k (0,0,0)))]∧l.length<9223372036854775808:=by
 obtain ⟨nb,m,f,rfl,h1,h2,h3⟩:=Sh.slice (e:=66) (by kernel_rfl) h
 obtain ⟨l,rfl,h4⟩:=zaA ((0,0,0):Int×Int×Int) (P:=fun k x=>f k=YtdpipdniklognaaGreat.e3 x) fun k hk=>zlr (h3 k hk)
 exact ⟨nb,l,⟨PImp.lst fun k hk=>by rw [h4 k hk];exact z6w _,trivial⟩,h2⟩
theorem zo5 {n:Nat} {q:List PV} (h:Sh sE0 (n+4) 51 q):∃ R:Raw,PImps q (zm7 R)∧R.sh.length<9223372036854775808∧R.wo.length<9223372036854775808∧R.sw.length<9223372036854775808∧∃ nb f,q[3]? = some (.lst 3 nb R.ids.length f):=by
 obtain ⟨h1,h2⟩:=Sh.struct (sz:=4) (l:=[(48,0),(49,1),(37,2),(37,3)]) (by kernel_rfl) h
 match q,h1 with
 | [a,b,c,d],_ =>
  obtain ⟨b0,l0,k0,m0⟩:=zjy (h2 (48,0) (by simp) 1 (by kernel_rfl))
  obtain ⟨b1,l1,k1,m1⟩:=zjz (h2 (49,1) (by simp) 1 (by kernel_rfl))
  obtain ⟨b2,l2,f2,k2,p2,m2⟩:=zcH (h2 (37,2) (by simp) 1 (by kernel_rfl))
  obtain ⟨b3,l3,f3,k3,p3,m3⟩:=zcH (h2 (37,3) (by simp) 1 (by kernel_rfl))
  have k0:PImps [a] _:=k0
  have k1:PImps [b] _:=k1
  have k2:[c]=_:=k2
  have k3:[d]=_:=k3
  cases k2;cases k3
  exact ⟨⟨l0,b0,l1,b1,l2,b2,l3,b3⟩,⟨k0.1,k1.1,p2,p3,trivial⟩,m0,m1,m2,b3,f3,rfl⟩
theorem zhc:Tryz.checked.prog.underlying 37=some (.slice 3):=by kernel_rfl
theorem zqT:ownKnob Tryz.checked.prog.godebug=none:=by kernel_rfl
theorem zih (r:Tr (List Value×TypeId)) (qs:List (List PV)) (h:Shs sE0 9 Tryz.f7.params.toList qs) (hs:zcO Tryz.checked.prog sE0 1048576 Tryz.f7.params.toList qs):VP (sE (r,true)) 7 (z7p sE0 Tryz.f7.params.toList qs) (.p (.bool true)):=by
 have e:Tryz.f7.params.toList=[51,66,3]:=rfl
 rw [e] at h hs ⊢
 obtain ⟨q1,q2,q3,rfl,g1,g2,g3⟩:=Shs.three h
 obtain ⟨R,h1,n1,n2,n3,nb,f,h4⟩:=zo5 (n:=5) g1
 obtain ⟨a,b,c,rfl⟩:=zcG (n:=7) g2
 obtain ⟨w,rfl,_⟩:=z6Q (n:=8) g3
 have hid:R.ids.length≤1048576:=hs 0 3 51 3 3 _ _ nb R.ids.length f q1 rfl Tryz.underlying51 (by kernel_rfl) rfl rfl zhc (by kernel_rfl) h4
 have e2:z7p sE0 [51,66,3] [q1,[.int .i64 a,.int .i64 b,.int .i64 c],[.int .i64 w]]=[.agg (q1.map .p),.agg [.p (.int .i64 a),.p (.int .i64 b),.p (.int .i64 c)],.p (.int .i64 w)]:=by
  show [zb6 _ _ _,zb6 _ _ _,zb6 _ _ _]=_
  unfold zb6
  rw [show zo9 sE0 51=true by kernel_rfl,show zo9 sE0 66=true by kernel_rfl,show zo9 sE0 3=false by kernel_rfl];rfl
 rw [e2]
 exact VP.imp (zc2 (a:=a) (b:=b) (c:=c) (which:=w) ⟨n1,n2,n3,by omega⟩) ⟨zjO h1,AImp.refl _,AImp.refl _,trivial⟩
theorem zdy (os:Os) (started:os.Started) (H:Type) (enc:TypeId×Value→H) (F:Stop.Interp) :
  ReturnsInHanded {} Tryz.checked os 7 .any ((Rows.OpenSpec.upto Rows.leafLessSpec).pre6 enc Tryz.checked.prog Tryz.f7 [] false) (((Rows.OpenSpec.upto Rows.leafLessSpec).at F).post enc Tryz.checked.prog Tryz.f7 false Rows.leafLessUptoRow.fresh Rows.leafLessUptoRow.handsOn Rows.leafLessUptoRow.again):=by
 refine zc5 (E:=sE0) (m:=9) (B:=1048576) (s:=Rows.leafLessSpec) (k:=Rows.uptoSmall) (tb:=4) zqT started (by kernel_rfl) (by kernel_rfl)
  (OpenSpec.witness (enc:=enc) (C:=Tryz.checked) (s:=Rows.OpenSpec.upto Rows.leafLessSpec) (k:=Rows.uptoSmall) rfl false ⟨#[],#[.agg #[.slice none 0 0,.slice none 0 0,.slice none 0 0,.slice none 0 0],.agg #[.int .i64 0,.int .i64 0,.int .i64 0],.int .i64 0],[]⟩ 20 (by kernel_rfl) (by kernel_rfl) (by kernel_rfl)
   (x:=([.agg [.nil,.nil,.nil,.nil],.agg [.lit (.int .i64 0),.lit (.int .i64 0),.lit (.int .i64 0)],.lit (.int .i64 0)],[],[])) (by kernel_rfl) rfl (by kernel_rfl))
  (of_decide_eq_true (by kernel_rfl)) (fun r=>zqq (r,true)) (by kernel_rfl) (by kernel_rfl) (by kernel_rfl) (by kernel_rfl) (by kernel_rfl) rfl ?_ (fun ds h=>zgl h) zih
 intro ds hds
 have:ds.length=3:=hds
 match ds,this with
 | [d1,d2,d3],_=>exact ⟨rfl,rfl,rfl⟩
theorem less_holds:Rows.LeafLessUptoSaid :=
 OpenClaim.holds_of_cond 7 Tryz.f7 rfl rfl rfl rfl rfl rfl rfl ⟨rfl,rfl,rfl,rfl,rfl⟩ rfl rfl rfl rfl rfl (by kernel_rfl) (by kernel_rfl) (by kernel_rfl)
  (of_decide_eq_true (by kernel_rfl)) (by unfold Func.isWrapper;first | (rw [if_pos (by decide +kernel)];kernel_rfl) | (rw [if_neg (by decide +kernel)];exact ⟨rfl,rfl⟩))
  (fun os started H enc _ F=>zdy os started H enc F)
end
end Go.Proofs.YtdpipdniklognaaGreat
