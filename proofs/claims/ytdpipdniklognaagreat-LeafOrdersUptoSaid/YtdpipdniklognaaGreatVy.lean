/- The program's LeafOrders returns true for all heaps, papers, numbers, orders and holes, valid or not, without an exception and without changing its arguments: a part of the proof. -/
import Derived.Test.YtdpipdniklognaaGreatVx
import Derived.Test.YtdpipdniklognaaGreatVe
import Derived.Test.YtdpipdniklognaaGreatRows
import Derived.Test.YtdpipdniklognaaGreatVw
import Derived.JoinedCond
set_option linter.all false
/- Walks of the reference: all orders without worm holes. -/
set_option maxRecDepth 100000
namespace Go.Proofs.YtdpipdniklognaaGreat
variable {r:Rm}
def z1A (l:List Nat):Nat:=zA l (l.length - 1)
def za8 (h:Hp) (l:List Nat):Bool:=bif Nat.beq l.length 0 then false else za6 h (za h.st (z1A l))
def z80 (h:Hp) (l:List Nat) (x:Nat):Bool:=bif Nat.beq l.length 0 then !zeb h (za h.st x) else z5D h (z1A l) x (za h.st (z1A l)) (za h.st x)
def z2q (h:Hp):Nat→List Nat→List Nat→List (List Nat)
 | 0,bg,_=>bif za8 h bg then [] else [bg]
 | f+1,bg,lf=>(List.range lf.length).flatMap fun i=>bif z80 h bg (zA lf i) then z2q h f (bg++[zA lf i]) (lf.eraseIdx i) else []
def z23 (h:Hp) (f:Nat) (bg lf:List Nat):Nat→List (List Nat)
 | 0=>[]
 | k+1=>z23 h f bg lf k++bif z80 h bg (zA lf k) then z2q h f (bg++[zA lf k]) (lf.eraseIdx k) else []
theorem zaQ {h:Hp} {f:Nat} {bg lf:List Nat}:z23 h f bg lf lf.length=z2q h (f+1) bg lf:=by
 have:∀ k,z23 h f bg lf k=(List.range k).flatMap fun i=>bif z80 h bg (zA lf i) then z2q h f (bg++[zA lf i]) (lf.eraseIdx i) else []:=fun k=>by
  induction k with
  | zero=>rfl
  | succ k ih=>rw [z8I,←ih];rfl
 exact this _
def fac:Nat→Nat
 | 0=>1
 | f+1=>(f+1)*fac f
theorem z57 {h:Hp}:∀ f {bg lf:List Nat},lf.length=f→(z2q h f bg lf).length≤fac f
 | 0,bg,lf,_=>by
  show (bif za8 h bg then [] else [bg]).length≤1
  cases za8 h bg <;> simp
 | f+1,bg,lf,hf=>by
  have hk:∀ k,k≤lf.length→(z23 h f bg lf k).length≤k*fac f:=fun k=>by
   induction k with
   | zero=>intro _;exact Nat.zero_le _
   | succ k ih =>
    intro hk
    have h1:=ih (by omega)
    have h2:(z2q h f (bg++[zA lf k]) (lf.eraseIdx k)).length≤fac f:=z57 f (by rw [List.length_eraseIdx_of_lt (by omega)];omega)
    show (z23 h f bg lf k++_).length≤_
    rw [List.length_append,Nat.succ_mul]
    cases z80 h bg (zA lf k) with
    | true=>exact Nat.add_le_add h1 h2
    | false=>exact Nat.le_trans h1 (Nat.le_add_right _ _)
  rw [←zaQ]
  have:=hk lf.length (Nat.le_refl _)
  rw [hf] at this ⊢
  exact this
theorem zgx {h:Hp} {f:Nat} {bg lf:List Nat} (hf:lf.length=f+1):∀ k,k≤lf.length→(z23 h f bg lf k).length≤k*fac f:=fun k=>by
 induction k with
 | zero=>intro _;exact Nat.zero_le _
 | succ k ih =>
  intro hk
  have h1:=ih (by omega)
  have h2:(z2q h f (bg++[zA lf k]) (lf.eraseIdx k)).length≤fac f:=z57 f (by rw [List.length_eraseIdx_of_lt (by omega)];omega)
  show (z23 h f bg lf k++_).length≤_
  rw [List.length_append,Nat.succ_mul]
  cases z80 h bg (zA lf k) with
  | true=>exact Nat.add_le_add h1 h2
  | false=>exact Nat.le_trans h1 (Nat.le_add_right _ _)
theorem z3l {l:List Nat} {P:Nat→Prop}:(∀ k,k<l.length→P (zA l k)) ↔ ∀ x∈l,P x :=
 ⟨fun h x hx=>by
  obtain ⟨k,hk,e⟩:=z0u (d:=0) hx
  rw [←e];exact h k hk,fun h k hk=>h _ (z0e hk)⟩
def zp3 (h:Hp) (o:List Nat):List PV:=[z1v false o,.int .i64 (Int.ofNat (zO (zF h o) 12))]
def zj4 (h:Hp) (l:List (List Nat)):Nat→List PV:=fun k=>zp3 h (l.getD k [])
def zlr (h:Hp) (l:List (List Nat)):PV:=.lst 159 l.isEmpty l.length (zj4 h l)
theorem zoL {f:Nat} (h:f≤7):fac f≤5040:=by
 match f,h with
 | 0,_=>decide
 | 1,_=>decide
 | 2,_=>decide
 | 3,_=>decide
 | 4,_=>decide
 | 5,_=>decide
 | 6,_=>decide
 | 7,_=>decide
def z4Y (lf:List Nat) (i:Nat):Nat→List Nat
 | 0=>[]
 | q+1=>bif Nat.beq q i then z4Y lf i q else z4Y lf i q++[zA lf q]
theorem z2p {a b:Nat} (h:a≠b):Nat.beq a b=false:=by rw [←Bool.not_eq_true];exact fun e=>h (Nat.eq_of_beq_eq_true e)
theorem zde {lf:List Nat} {i:Nat}:∀ {q},q≤lf.length→z4Y lf i q=(lf.take q).eraseIdx i
 | 0,_=>by simp [z4Y]
 | q+1,hq=>by
  have ih:=zde (lf:=lf) (i:=i) (q:=q) (by omega)
  show (bif Nat.beq q i then z4Y lf i q else z4Y lf i q++[zA lf q])=_
  have e:lf.take (q+1)=lf.take q++[zA lf q]:=z29 lf (by omega)
  have hlen:(lf.take q).length=q:=by rw [List.length_take];omega
  rw [ih,e]
  by_cases c:q=i
  ·subst c
   rw [Nat.beq_refl,List.eraseIdx_append_of_length_le (by omega),hlen,Nat.sub_self,List.eraseIdx_of_length_le (by omega)]
   simp
  ·rw [show Nat.beq q i=false from z2p c]
   by_cases c2:i<q
   ·rw [List.eraseIdx_append_of_lt_length (by omega)];rfl
   ·rw [List.eraseIdx_append_of_length_le (by omega),List.eraseIdx_of_length_le (l:=lf.take q) (by omega),hlen,List.eraseIdx_of_length_le (by simp only [List.length_singleton];omega)];rfl
theorem zau {lf:List Nat} {i:Nat}:∀ q,(z4Y lf i q).length≤q
 | 0=>Nat.le_refl _
 | q+1=>by
  have ih:=zau (lf:=lf) (i:=i) q
  show (bif Nat.beq q i then z4Y lf i q else z4Y lf i q++[zA lf q]).length≤_
  cases Nat.beq q i with
  | true=>exact Nat.le_succ_of_le ih
  | false=>rw [cond_false,List.length_append];exact Nat.succ_le_succ ih
theorem zhL {h:Hp} {l:List (List Nat)} {n:Nat} (hn:n=l.length):(AV.p (.lst 159 (true&&Nat.beq n 0) n (zj4 h l))) = .p (zlr h l):=by
 subst hn
 cases l <;> rfl
def z4Z (lf:List Nat) (i q:Nat):List Int:=(z4Y lf i q).map Int.ofNat
theorem zkE {lf:List Nat} {i q:Nat} (h:Nat.beq q i=true):z4Z lf i (q+1)=z4Z lf i q:=by
 show ((bif Nat.beq q i then z4Y lf i q else z4Y lf i q++[zA lf q]).map Int.ofNat)=_
 rw [h];rfl
theorem zkF {lf:List Nat} {i q:Nat} (h:Nat.beq q i=false):z4Z lf i (q+1)=z4Z lf i q++[Int.ofNat (zA lf q)]:=by
 show ((bif Nat.beq q i then z4Y lf i q else z4Y lf i q++[zA lf q]).map Int.ofNat)=_
 rw [h,cond_false,List.map_append];rfl
theorem zfY {lf:List Nat} {i:Nat} (q:Nat):(z4Z lf i q).length≤q:=by
 unfold z4Z;rw [List.length_map];exact zau q
theorem zfZ {lf:List Nat} {i:Nat}:z4Z lf i lf.length=(lf.eraseIdx i).map Int.ofNat:=by
 unfold z4Z;rw [zde (Nat.le_refl _),List.take_length]
theorem zmB {bg:List Nat} {x:Nat} {y:Int} (hy:y=Int.ofNat x) {f:Nat→List PV} (hf:∀ k,f k=bif Nat.blt k (0+(bg.map Int.ofNat).length) then [PV.int .i64 ((bg.map Int.ofNat).getD k 0)] else List.take 1 (List.drop ((k - (0+(bg.map Int.ofNat).length))*1) [PV.int .i64 y])):AImp (.p (.lst 3 false (0+(bg.map Int.ofNat).length+1) fun k=>f (0+k))) (.p (z1v false (bg++[x]))):=by
 subst hy
 have e:((bg++[x]).map Int.ofNat).length=0+(bg.map Int.ofNat).length+1:=by simp
 show AImp _ (.p (.lst 3 false ((bg++[x]).map Int.ofNat).length _))
 rw [e]
 refine AImp.lst fun k hk=>?_
 rw [hf,List.map_append,Nat.zero_add,Nat.zero_add]
 have:=z3V (bg.map Int.ofNat) (Int.ofNat x) k (by omega)
 exact this
theorem zkX {bg:List Nat} {x:Nat} {y:Int} (hb:bg.length=0) (hy:y=Int.ofNat x) {f:Nat→List PV} (hf:∀ k,f k=List.take 1 (List.drop (k*1) [PV.int .i64 y])):AImp (.p (.lst 3 false (0+1) fun k=>f (0+k))) (.p (z1v false (bg++[x]))):=by
 subst hy
 have:bg=[]:=List.length_eq_zero_iff.1 hb
 subst this
 refine AImp.lst fun k hk=>?_
 have:k=0:=by omega
 subst this
 show f 0=_
 rw [hf];rfl
theorem zdd {lf:List Nat} {k:Nat}:(AV.p (.lst 3 (true&&Nat.beq (z4Z lf k lf.length).length 0) (z4Z lf k lf.length).length (fL (z4Z lf k lf.length)))) = .p (z1v ((lf.eraseIdx k).map Int.ofNat).isEmpty (lf.eraseIdx k)):=by
 rw [z8S rfl,zfZ];rfl
theorem zlL {h:Hp} {A R:List (List Nat)} {q:Nat}:(bif Nat.blt q A.length then zj4 h A q else zj4 h R (q - A.length))=zj4 h (A++R) q:=by
 unfold zj4
 by_cases e:q<A.length
 ·rw [zhw e]
  simp only [cond_true,List.getD_eq_getElem?_getD]
  rw [List.getElem?_append_left e]
 ·rw [zhx e]
  simp only [cond_false,List.getD_eq_getElem?_getD]
  rw [List.getElem?_append_right (by omega)]
theorem zoO {h:Hp} {bg:List Nat} {x:Nat} (e:bg.length=0):z80 h bg x = !zeb h (za h.st x):=by unfold z80;rw [e];rfl
theorem znt {h:Hp} {bg:List Nat} {x m:Nat} (e:bg.length=m+1):z80 h bg x=z5D h (z1A bg) x (za h.st (z1A bg)) (za h.st x):=by unfold z80;rw [e];rfl
set_option maxHeartbeats 8000000 in
theorem zl2 {h:Hp} (hz:SzH h) (hO:OkH h):∀ f (bg lf:List Nat) (b1 b2:Bool),lf.length=f→bg.length+f≤7→(∀ k,k<bg.length→zA bg k<h.st.length)→(∀ k,k<lf.length→zA lf k<h.st.length) →
  VP (sE r) 137 [.agg ((eHp h).map .p),.p (z1v b1 bg),.p (z1v b2 lf)] (.p (zlr h (z2q h f bg lf))):=by
 have hst:=hO.st
 have hsw:=hO.sw
 have hbit:∀ i,i<h.st.length→BitS (za h.st i):=fun i hi=>(hO.ok i hi).bit
 intro f
 induction f with
 | zero =>
  intro bg lf b1 b2 hf hn hb1 hb2
  have hlm:(lf.map Int.ofNat).length=0:=by rw [List.length_map];exact hf
  have hbm:(bg.map Int.ofNat).length=bg.length:=List.length_map _
  refine VP.of (fn:=Tryz.f137) z7 (zu rfl) (by kernel_rfl) rfl rfl rfl ?_
  refine VSt.go z7 false [] 200 rfl AllP.n ?_
  refine z01 (zb 0 (eHp h) rfl rfl) ?_
  refine VSt.cond rfl (fun _=>?_) (fun q=>?_)
  rotate_left
  ·have q:(Int.ofNat (lf.map Int.ofNat).length==0)=false:=q
   rw [hlm] at q;exact absurd q (by decide)
  cases bg with
  | nil =>
   refine VSt.go z7 false [] 200 rfl AllP.n ?_
   refine zd 19 rfl (fun q1=>?_) (fun q1=>?_)
   ·exact absurd q1 (by decide)
   refine VSt.go z7 true [7] 200 rfl (AllP.c ‹_› AllP.n) ?_
   refine VSt.go z7 false [35] 200 rfl AllP.n ?_
   refine z8 (Vw.kp [32,33,34] [(0,0)] rfl) ?_
   refine z8 (Vw.freeze 0 rfl rfl (by (repeat (first | exact AllP.n | refine AllP.c (by first | assumption | rfl | omega | exact Nat.le_refl _ | (show 0<_;omega) | (show 1<_;omega) | (show 2<_;omega) | (show 3<_;omega) | (intro _ _;rfl) | (intro q hq;match q,hq with | 0,_=>rfl) | (unfold inR;(try simp only [Int.ofNat_eq_natCast]);omega)) ?_)))) ?_
   refine z03 32 (.p (z1v false [])) rfl (AImp.lst fun k hk=>absurd hk (Nat.not_lt_zero k)) ?_
   refine z03 34 (.p (z1v false [])) rfl (AImp.lst fun k hk=>absurd hk (Nat.not_lt_zero k)) ?_
   refine VSt.pc rfl rfl rfl rfl rfl rfl rfl rfl ((z5F (b:=false) (l:=[]) hbit (by decide) (fun k hk=>absurd hk (Nat.not_lt_zero k)))) ?_
   refine VSt.go z7 false [] 200 rfl AllP.n ?_
   refine ⟨rfl,_,rfl,rfl,?_⟩
   exact AImp.lst fun k hk=>by
    have:k=0:=by omega
    subst this;rfl
  | cons x bg' =>
   have hm0:0<((x::bg').map Int.ofNat).length:=by rw [hbm];exact Nat.succ_pos _
   have hm1:((x::bg').map Int.ofNat).length=bg'.length+1:=hbm
   have hm2:bg'.length<((x::bg').map Int.ofNat).length:=by omega
   have hm3:((x::bg').map Int.ofNat).length≤1048576:=by
    have hn:bg'.length+1+0≤7:=hn
    omega
   have hlast:z1A (x::bg')<h.st.length:=hb1 _ (Nat.lt_succ_self _)
   have hend:za8 h (x::bg')=za6 h (za h.st (z1A (x::bg'))):=rfl
   refine VSt.go z7 false [] 200 rfl AllP.n ?_
   refine zd 19 rfl (fun q1=>?_) (fun q1=>?_)
   rotate_left
   ·exact absurd (q1.symm.trans z9j) (by decide)
   refine VSt.go z7 false [24] 200 rfl AllP.n ?_
   refine zi 23 (nv (bg'.length+1)) rfl (z0I (by rw [hm1])) ?_
   refine VSt.go z7 false [25] 200 rfl (AllP.c (by unfold inR;(try simp only [Int.ofNat_eq_natCast]);omega) AllP.n) ?_
   refine zi 24 (nv bg'.length) rfl (z0I z2z) ?_
   refine VSt.go z7 false [27] 200 rfl (AllP.c ‹_› (AllP.c rfl AllP.n)) ?_
   refine zi 26 (nv (z1A (x::bg'))) rfl (z0I z1a) ?_
   refine z0b rfl rfl rfl rfl rfl rfl rfl rfl ((zbS (i:=z1A (x::bg')) hlast (by omega))) ?_
   refine VSt.go z7 false [] 200 rfl AllP.n ?_
   refine VSt.cond rfl (fun q2=>?_) (fun q2=>?_)
   ·have q2:za6 h (za h.st (z1A (x::bg')))=true:=q2
    have e:z2q h 0 (x::bg') lf=[]:=by show (bif za8 h (x::bg') then _ else _)=_;rw [hend,q2];rfl
    rw [e]
    refine VSt.go z7 false [] 200 rfl AllP.n ?_
    refine ⟨rfl,_,rfl,rfl,?_⟩
    exact AImp.nil
   ·have q2:za6 h (za h.st (z1A (x::bg')))=false:=q2
    have e:z2q h 0 (x::bg') lf=[x::bg']:=by show (bif za8 h (x::bg') then _ else _)=_;rw [hend,q2];rfl
    rw [e]
    refine VSt.go z7 false [35] 200 rfl (AllP.c ‹_› (AllP.c (by omega) (AllP.c (fun _ _=>rfl) (AllP.c rfl (AllP.c rfl (AllP.c (by omega) (AllP.c (by omega) AllP.n))))))) ?_
    refine z8 (Vw.kp [32,33,34] [(0,1)] rfl) ?_
    refine z8 (Vw.freeze 0 rfl rfl (by (repeat (first | exact AllP.n | refine AllP.c (by first | assumption | rfl | omega | exact Nat.le_refl _ | (show 0<_;omega) | (show 1<_;omega) | (show 2<_;omega) | (show 3<_;omega) | (intro _ _;rfl) | (intro q hq;match q,hq with | 0,_=>rfl) | (unfold inR;(try simp only [Int.ofNat_eq_natCast]);omega)) ?_)))) ?_
    refine z03 32 (.p (z1v false (x::bg'))) rfl (zaS (g:=fun i=>bif i.blt 0 then (fun _=>[]) (0+i) else (fun k=>[PV.int IntKind.i64 (((x::bg').map Int.ofNat).getD k 0)]) (i - 0)) (fun _=>rfl)) ?_
    refine z03 34 (.p (z1v false (x::bg'))) rfl (zaS (g:=fun i=>bif i.blt 0 then (fun _=>[]) (0+i) else (fun k=>[PV.int IntKind.i64 (((x::bg').map Int.ofNat).getD k 0)]) (i - 0)) (fun _=>rfl)) ?_
    refine VSt.pc rfl rfl rfl rfl rfl rfl rfl rfl ((z5F (b:=false) (l:=x::bg') hbit (by show bg'.length+1≤_;omega) hb1)) ?_
    refine VSt.go z7 false [] 200 rfl AllP.n ?_
    refine ⟨rfl,_,rfl,rfl,?_⟩
    exact AImp.lst fun k hk=>by
     have:k=0:=by omega
     subst this;rfl
 | succ f ih =>
  intro bg lf b1 b2 hf hn hb1 hb2
  have hlm:(lf.map Int.ofNat).length=lf.length:=List.length_map _
  have hbm:(bg.map Int.ofNat).length=bg.length:=List.length_map _
  refine VP.of (fn:=Tryz.f137) z7 (zu rfl) (by kernel_rfl) rfl rfl rfl ?_
  refine VSt.go z7 false [] 200 rfl AllP.n ?_
  refine z01 (zb 0 (eHp h) rfl rfl) ?_
  refine VSt.cond rfl (fun q=>?_) (fun _=>?_)
  ·have q:(Int.ofNat (lf.map Int.ofNat).length==0)=true:=q
   have:=eq_of_beq q
   simp only [Int.ofNat_eq_natCast] at this
   omega
  refine VSt.go z7 false [] 200 rfl AllP.n ?_
  refine z01 (z1y 0 2 (zj4 h []) 159 rfl) ?_
  refine z09 (ti:=9) lf.length [1,2,3] (fun k=>[(8,.acc true 0 2 (z23 h f bg lf k).length)]) (fun k=>[(0,.acc (z23 h f bg lf k).length 2 (zj4 h (z23 h f bg lf k)) 159)]) (fun _=>True) rfl rfl (z0K rfl z0o z0l) (LImp.refl _) trivial (fun k hk _=>?_)
  refine VSt.go z7 false [] 200 rfl AllP.n ?_
  refine VSt.cond rfl (fun g=>?_) (fun g=>?_)
  rotate_left
  ·have g:k=lf.length:=by have:=nge g;omega
   subst g
   rw [←zaQ]
   refine VSt.go z7 false [6] 200 rfl AllP.n ?_
   refine z8 (Vw.kp [106] [(0,0)] rfl) ?_
   refine z8 (z0t 0 rfl rfl (by (repeat (first | exact AllP.n | refine AllP.c (by first | assumption | rfl | omega | exact Nat.le_refl _ | (show 0<_;omega) | (show 1<_;omega) | (show 2<_;omega) | (show 3<_;omega) | (intro _ _;rfl) | (intro q hq;match q,hq with | 0,_=>rfl) | (unfold inR;(try simp only [Int.ofNat_eq_natCast]);omega)) ?_)))) ?_
   refine VSt.go z7 false [] 200 rfl AllP.n ?_
   exact EndsP.mk rfl rfl rfl (zhL rfl)
  have g:k<lf.length:=by have:=nlt g;omega
  have hkm:k<(lf.map Int.ofNat).length:=by omega
  have hx:zA lf k<h.st.length:=hb2 k g
  have hgk:z23 h f bg lf (k+1)=z23 h f bg lf k++bif z80 h bg (zA lf k) then z2q h f (bg++[zA lf k]) (lf.eraseIdx k) else []:=rfl
  have hskip:z80 h bg (zA lf k)=false→z23 h f bg lf (k+1)=z23 h f bg lf k:=fun e=>by rw [hgk,e];exact List.append_nil _
  have hrc:bg.length=0∨∃ m,bg.length=m+1:=by cases bg with
   | nil=>exact .inl rfl
   | cons x t=>exact .inr ⟨t.length,rfl⟩
  refine ways (O:=z80 h bg (zA lf k)=true) (T:=?T) hrc ?tail ?ha ?hb
  case ha =>
   intro hrow tail
   refine VSt.go z7 false [47] 200 rfl AllP.n ?_
   refine zi 46 (bv true) rfl (z00 (by rw [hbm,hrow];rfl)) ?_
   refine VSt.go z7 false [] 200 rfl AllP.n ?_
   refine zd 47 rfl (fun q1=>?_) (fun q1=>?_)
   rotate_left
   ·exact absurd q1 (by decide)
   refine VSt.go z7 false [53] 200 rfl (AllP.c ‹_› (AllP.c rfl AllP.n)) ?_
   refine zi 52 (nv (zA lf k)) rfl (z0I z1a) ?_
   refine z0b rfl rfl rfl rfl rfl rfl rfl rfl ((z72 (h:=h) hx (by omega))) ?_
   refine VSt.go z7 false [] 200 rfl AllP.n ?_
   refine zd 55 rfl (fun q2=>?_) (fun q2=>?_)
   ·have q2:zeb h (za h.st (zA lf k))=true:=q2
    refine VSt.go z7 false [] 200 rfl (AllP.c (by unfold inR;(try simp only [Int.ofNat_eq_natCast]);omega) AllP.n) ?_
    refine ⟨g,?_,trivial⟩
    dsimp only
    rw [hskip (by rw [zoO hrow,q2];rfl)]
    refine z14 (ps:=[(0,0)]) ⟨rfl,rfl,(by repeat (first | exact zo | refine zl rfl rfl rfl ?_)),_,rfl,(⟨rfl,BImp.refl _,trivial⟩)⟩
   have q2:zeb h (za h.st (zA lf k))=false:=q2
   refine VSt.go z7 false [] 200 rfl AllP.n ?_
   refine zi 59 (bv false) rfl (z00 (by rw [hbm,hrow];rfl)) ?_
   refine zd 59 rfl (fun q3=>?_) (fun q3=>?_)
   ·exact absurd q3 (by decide)
   refine VSt.go z7 false [10] 200 rfl AllP.n ?_
   refine z8 (Vw.kp [8,9,1,2,3] [(0,0)] rfl) ?_
   exact tail (by rw [zoO hrow,q2];rfl)
  case hb =>
   intro hx2 tail
   refine hx2.elim fun m hrow=>?_
   have hm1:(bg.map Int.ofNat).length=m+1:=by omega
   have hm2:m<(bg.map Int.ofNat).length:=by omega
   have hm3:m<10:=by omega
   have hls:zA bg m=z1A bg:=by unfold z1A;rw [hrow];rfl
   have hlast:z1A bg<h.st.length:=by rw [←hls];exact hb1 m (by omega)
   refine VSt.go z7 false [47] 200 rfl AllP.n ?_
   refine zi 46 (bv false) rfl (z00 (by rw [hm1];rfl)) ?_
   refine VSt.go z7 false [] 200 rfl AllP.n ?_
   refine zd 47 rfl (fun q1=>?_) (fun q1=>?_)
   ·exact absurd q1 (by decide)
   refine VSt.go z7 false [] 200 rfl AllP.n ?_
   refine zi 59 (bv true) rfl (z00 (by rw [hm1,z9j])) ?_
   refine zd 59 rfl (fun q3=>?_) (fun q3=>?_)
   rotate_left
   ·exact absurd q3 (by decide)
   refine VSt.go z7 false [64] 200 rfl AllP.n ?_
   refine zi 63 (nv (m+1)) rfl (z0I (by rw [hm1])) ?_
   refine VSt.go z7 false [65] 200 rfl (AllP.c (by unfold inR;(try simp only [Int.ofNat_eq_natCast]);omega) AllP.n) ?_
   refine zi 64 (nv m) rfl (z0I z2z) ?_
   refine VSt.go z7 false [71] 200 rfl (AllP.c ‹_› (AllP.c rfl (AllP.c ‹_› (AllP.c rfl AllP.n)))) ?_
   refine zi 66 (nv (z1A bg)) rfl (z0I (by rw [z1a,hls])) ?_
   refine zi 70 (nv (zA lf k)) rfl (z0I z1a) ?_
   refine z0b rfl rfl rfl rfl rfl rfl rfl rfl ((zfX (h:=h) (i:=z1A bg) (k:=zA lf k) hz hlast hx)) ?_
   refine VSt.go z7 false [] 200 rfl AllP.n ?_
   refine VSt.cond rfl (fun q4=>?_) (fun q4=>?_)
   ·have q4:(!z5D h (z1A bg) (zA lf k) (za h.st (z1A bg)) (za h.st (zA lf k)))=true:=q4
    refine VSt.go z7 false [] 200 rfl (AllP.c (by unfold inR;(try simp only [Int.ofNat_eq_natCast]);omega) AllP.n) ?_
    refine ⟨g,?_,trivial⟩
    dsimp only
    rw [hskip (by rw [znt hrow];simpa using q4)]
    refine z14 (ps:=[(0,0)]) ⟨rfl,rfl,(by repeat (first | exact zo | refine zl rfl rfl rfl ?_)),_,rfl,(⟨rfl,BImp.refl _,trivial⟩)⟩
   have q4:(!z5D h (z1A bg) (zA lf k) (za h.st (z1A bg)) (za h.st (zA lf k)))=false:=q4
   refine VSt.go z7 false [10] 200 rfl AllP.n ?_
   refine z8 (Vw.kp [8,9,1,2,3] [(0,0)] rfl) ?_
   exact tail (by rw [znt hrow];simpa using q4)
  intro hcan
  refine VSt.go z7 false [] 200 rfl AllP.n ?_
  refine z01 (z1y 1 1 (fL []) 3 rfl) ?_
  refine z09 (ti:=11) lf.length [1,2,3,8,9] (fun q=>[(10,.acc true 1 1 (z4Z lf k q).length)]) (fun q=>[(1,.acc (z4Z lf k q).length 1 (fL (z4Z lf k q)) 3),(0,.acc (z23 h f bg lf k).length 2 (zj4 h (z23 h f bg lf k)) 159)]) (fun _=>True) rfl rfl (z0K rfl z0o z0l) (LImp.refl _) trivial (fun q hq _=>?_)
  refine VSt.go z7 false [] 200 rfl AllP.n ?_
  refine VSt.cond rfl (fun g2=>?_) (fun g2=>?_)
  ·have g2:q<lf.length:=by have:=nlt g2;omega
   have hqm:q<(lf.map Int.ofNat).length:=by omega
   have hql:=zfY (lf:=lf) (i:=k) q
   refine VSt.go z7 false [] 200 rfl AllP.n ?_
   refine VSt.cond rfl (fun q5=>?_) (fun q5=>?_)
   ·have q5:(!(Int.ofNat q==Int.ofNat k))=true:=q5
    have q6:Nat.beq q k=false:=z2p fun e=>by rw [e,beq_self_eq_true] at q5;cases q5
    have e:=zkF (lf:=lf) q6
    have hN:=congrArg List.length e
    rw [List.length_append,List.length_singleton] at hN
    refine VSt.go z7 false [89] 200 rfl (AllP.c ‹_› (AllP.c rfl AllP.n)) ?_
    refine z03 88 (nv (zA lf q)) rfl (z0I z1a) ?_
    refine VSt.go z7 false [] 200 rfl (AllP.c (by omega) (AllP.c (by omega) (AllP.c (fun q hq=>match q,hq with | 0,_=>rfl) (AllP.c rfl (AllP.c rfl (AllP.c rfl (AllP.c (by unfold inR;(try simp only [Int.ofNat_eq_natCast]);omega) AllP.n))))))) ?_
    refine ⟨g2,?_,trivial⟩
    exact z14 (ps:=[(1,2),(0,0)]) ⟨rfl,rfl,(by repeat (first | exact zo | refine zl rfl rfl rfl ?_ | refine z0z rfl rfl z16 ?_ | refine z0z rfl rfl (AImp.acc hN.symm (fun _=>rfl)) ?_)),_,rfl,⟨rfl,BImp.acc hN.symm (fun x hx=>by rw [e];exact z3V _ _ x hx),rfl,BImp.refl _,trivial⟩⟩
   ·have q5:(!(Int.ofNat q==Int.ofNat k))=false:=q5
    have q6:Nat.beq q k=true:=by
     have:(Int.ofNat q==Int.ofNat k)=true:=by simpa using q5
     have:=eq_of_beq this
     simp only [Int.ofNat_eq_natCast] at this
     rw [show q=k by omega];exact Nat.beq_refl k
    have e:=zkE (lf:=lf) q6
    refine VSt.go z7 false [] 200 rfl (AllP.c (by unfold inR;(try simp only [Int.ofNat_eq_natCast]);omega) AllP.n) ?_
    refine ⟨g2,?_,trivial⟩
    dsimp only
    rw [e]
    refine z14 (ps:=[(1,1),(0,0)]) ⟨rfl,rfl,(by repeat (first | exact zo | refine zl rfl rfl rfl ?_)),_,rfl,(⟨rfl,BImp.refl _,rfl,BImp.refl _,trivial⟩)⟩
  have g3:q=lf.length:=by have:=nge g2;omega
  subst g3
  have hT:True:=trivial
  refine ways (O:=True) (T:=?T2) hrc ?tail2 ?ha2 ?hb2
  case ha2 =>
   intro hrow tail
   have hm1:(bg.map Int.ofNat).length=0:=by omega
   refine VSt.go z7 true [94] 200 rfl (AllP.c ‹_› AllP.n) ?_
   refine VSt.go z7 false [104] 200 rfl (AllP.c ‹_› (AllP.c rfl (AllP.c (by omega) (AllP.c (by omega) (AllP.c (fun q hq=>match q,hq with | 0,_=>rfl) (AllP.c rfl (AllP.c rfl (AllP.c (by omega) (AllP.c (by omega) AllP.n))))))))) ?_
   refine z8 (Vw.kp [1,2,3,8,9,100,101,102,103] [(0,0),(1,1),(2,3)] rfl) ?_
   refine z8 (Vw.freeze 2 rfl rfl (by (repeat (first | exact AllP.n | refine AllP.c (by first | assumption | rfl | omega | exact Nat.le_refl _ | (show 0<_;omega) | (show 1<_;omega) | (show 2<_;omega) | (show 3<_;omega) | (intro _ _;rfl) | (intro q hq;match q,hq with | 0,_=>rfl) | (unfold inR;(try simp only [Int.ofNat_eq_natCast]);omega)) ?_)))) ?_
   refine z8 (z0t 1 rfl rfl (by (repeat (first | exact AllP.n | refine AllP.c (by first | assumption | rfl | omega | exact Nat.le_refl _ | (show 0<_;omega) | (show 1<_;omega) | (show 2<_;omega) | (show 3<_;omega) | (intro _ _;rfl) | (intro q hq;match q,hq with | 0,_=>rfl) | (unfold inR;(try simp only [Int.ofNat_eq_natCast]);omega)) ?_)))) ?_
   refine z03 102 (.p (z1v false (bg++[zA lf k]))) rfl (zkX (f:=fun i=>bif i.blt 0 then (fun _=>[]) (0+i) else (fun k_1=>List.take 1 (List.drop (k_1*1) [PV.int IntKind.i64 ((lf.map Int.ofNat).getD k 0)])) (i - 0)) hrow z1a fun _=>rfl) ?_
   refine z03 101 (.agg ((eHp h).map .p)) rfl (AImp.refl _) ?_
   refine z03 103 (.p (z1v ((lf.eraseIdx k).map Int.ofNat).isEmpty (lf.eraseIdx k))) rfl (z00 zdd) ?_
   refine z8 (Vw.sub' (F0:=[(1,.p (z1v b1 bg)),(2,.p (z1v b2 lf)),(3,.p (.fp (eHp h) 0)),(9,nv k),(100,.acc true 0 2 (z23 h f bg lf k).length),(101,.agg ((eHp h).map .p)),(102,.p (z1v false (bg++[zA lf k]))),(103,.p (z1v ((lf.eraseIdx k).map Int.ofNat).isEmpty (lf.eraseIdx k)))]) (z6x (by repeat (first | exact z0p | refine z0A rfl ?_)))) ?_
   exact tail hT
  case hb2 =>
   intro hx2 tail
   refine hx2.elim fun m hrow=>?_
   have hm1:(bg.map Int.ofNat).length=m+1:=by omega
   have hm2:0<(bg.map Int.ofNat).length:=by omega
   have hm3:(bg.map Int.ofNat).length≤1048576:=by omega
   have hm4:0+(bg.map Int.ofNat).length+1≤1048576:=by omega
   refine VSt.go z7 false [104] 200 rfl (AllP.c ‹_› (AllP.c (by omega) (AllP.c (fun _ _=>rfl) (AllP.c rfl (AllP.c rfl (AllP.c (by omega) (AllP.c (by omega) (AllP.c ‹_› (AllP.c rfl (AllP.c (by omega) (AllP.c ‹_› (AllP.c (fun q hq=>match q,hq with | 0,_=>rfl) (AllP.c rfl (AllP.c rfl (AllP.c (by omega) (AllP.c (by omega) AllP.n)))))))))))))))) ?_
   refine z8 (Vw.kp [1,2,3,8,9,100,101,102,103] [(0,0),(1,1),(2,4)] rfl) ?_
   refine z8 (Vw.freeze 2 rfl rfl (by (repeat (first | exact AllP.n | refine AllP.c (by first | assumption | rfl | omega | exact Nat.le_refl _ | (show 0<_;omega) | (show 1<_;omega) | (show 2<_;omega) | (show 3<_;omega) | (intro _ _;rfl) | (intro q hq;match q,hq with | 0,_=>rfl) | (unfold inR;(try simp only [Int.ofNat_eq_natCast]);omega)) ?_)))) ?_
   refine z8 (z0t 1 rfl rfl (by (repeat (first | exact AllP.n | refine AllP.c (by first | assumption | rfl | omega | exact Nat.le_refl _ | (show 0<_;omega) | (show 1<_;omega) | (show 2<_;omega) | (show 3<_;omega) | (intro _ _;rfl) | (intro q hq;match q,hq with | 0,_=>rfl) | (unfold inR;(try simp only [Int.ofNat_eq_natCast]);omega)) ?_)))) ?_
   refine z03 102 (.p (z1v false (bg++[zA lf k]))) rfl (zmB (f:=fun i=>bif i.blt (0+(bg.map Int.ofNat).length) then (fun i=>bif i.blt 0 then (fun _=>[]) (0+i) else (fun k=>[PV.int IntKind.i64 ((bg.map Int.ofNat).getD k 0)]) (i - 0)) (0+i) else (fun k_1=>List.take 1 (List.drop (k_1*1) [PV.int IntKind.i64 ((lf.map Int.ofNat).getD k 0)])) (i - (0+(bg.map Int.ofNat).length))) z1a fun i=>by rw [Nat.zero_add i];rfl) ?_
   refine z03 101 (.agg ((eHp h).map .p)) rfl (AImp.refl _) ?_
   refine z03 103 (.p (z1v ((lf.eraseIdx k).map Int.ofNat).isEmpty (lf.eraseIdx k))) rfl (z00 zdd) ?_
   refine z8 (Vw.sub' (F0:=[(1,.p (z1v b1 bg)),(2,.p (z1v b2 lf)),(3,.p (.fp (eHp h) 0)),(9,nv k),(100,.acc true 0 2 (z23 h f bg lf k).length),(101,.agg ((eHp h).map .p)),(102,.p (z1v false (bg++[zA lf k]))),(103,.p (z1v ((lf.eraseIdx k).map Int.ofNat).isEmpty (lf.eraseIdx k)))]) (z6x (by repeat (first | exact z0p | refine z0A rfl ?_)))) ?_
   exact tail hT
  case tail2 =>
   intro _
   have hx1:∀ q,q<(bg++[zA lf k]).length→zA (bg++[zA lf k]) q<h.st.length:=z3l (P:=fun x=>x<h.st.length).2 fun x hx=>by
    rcases List.mem_append.1 hx with hx | hx
    ·exact z3l (P:=fun x=>x<h.st.length).1 hb1 x hx
    ·rw [List.mem_singleton.1 hx];assumption
   have hx2:∀ q,q<(lf.eraseIdx k).length→zA (lf.eraseIdx k) q<h.st.length:=z3l (P:=fun x=>x<h.st.length).2 fun x hx=>z3l (P:=fun x=>x<h.st.length).1 hb2 x (List.mem_of_mem_eraseIdx hx)
   have hle:(lf.eraseIdx k).length=f:=by rw [List.length_eraseIdx_of_lt g];omega
   have hR:=z57 (h:=h) (bg:=bg++[zA lf k]) f hle
   have hK:=zgx (h:=h) (bg:=bg) hf k (by omega)
   have hfc:=zoL (f:=f) (by omega)
   have hK2:(z23 h f bg lf k).length≤7*5040:=Nat.le_trans hK (Nat.mul_le_mul (by omega) hfc)
   have hih:=ih (bg++[zA lf k]) (lf.eraseIdx k) false ((lf.eraseIdx k).map Int.ofNat).isEmpty hle (by rw [List.length_append];show bg.length+1+f≤7;omega) hx1 hx2
   have e:z23 h f bg lf (k+1)=z23 h f bg lf k++z2q h f (bg++[zA lf k]) (lf.eraseIdx k):=by rw [hgk,hcan];rfl
   generalize z2q h f (bg++[zA lf k]) (lf.eraseIdx k)=R at hR hih e
   refine VSt.pc rfl rfl rfl rfl rfl rfl rfl rfl (hih) ?_
   by_cases hR0:R.length=0
   ·have hRn:R=[]:=List.length_eq_zero_iff.1 hR0
    have e2:z23 h f bg lf (k+1)=z23 h f bg lf k:=by rw [e,hRn,List.append_nil]
    refine VSt.go z7 true [8] 200 rfl (AllP.c ‹_› AllP.n) ?_
    refine VSt.go z7 false [] 200 rfl (AllP.c (by unfold inR;(try simp only [Int.ofNat_eq_natCast]);omega) AllP.n) ?_
    refine ⟨g,?_,trivial⟩
    dsimp only
    rw [e2]
    refine z14 (ps:=[(0,0)]) ⟨rfl,rfl,(by repeat (first | exact zo | refine zl rfl rfl rfl ?_)),_,rfl,(⟨rfl,BImp.refl _,trivial⟩)⟩
   ·have hR1:0<R.length:=by omega
    have hN:=congrArg List.length e
    rw [List.length_append] at hN
    have hsum:(z23 h f bg lf k).length+R.length≤1048576:=by omega
    refine VSt.go z7 false [] 200 rfl (AllP.c ‹_› (AllP.c ‹_› (AllP.c (fun _ _=>rfl) (AllP.c rfl (AllP.c rfl (AllP.c rfl (AllP.c (by unfold inR;(try simp only [Int.ofNat_eq_natCast]);omega) AllP.n))))))) ?_
    refine ⟨g,?_,trivial⟩
    exact z14 (ps:=[(0,1)]) ⟨rfl,rfl,(by repeat (first | exact zo | refine zl rfl rfl rfl ?_ | refine z0z rfl rfl z16 ?_ | refine z0z rfl rfl (AImp.acc hN.symm (fun _=>rfl)) ?_)),_,rfl,⟨rfl,BImp.acc hN.symm (fun q hq=>by rw [e];exact zlL),trivial⟩⟩
end Go.Proofs.YtdpipdniklognaaGreat
/- Walks of the reference: runs, orders. -/
set_option maxRecDepth 100000
namespace Go.Proofs.YtdpipdniklognaaGreat
variable {r:Rm}
def z6F (l:List Sht) (p:Int):Nat→List Nat
 | 0=>[]
 | k+1=>bif (za l k).paper==p then z6F l p k++[k] else z6F l p k
def z4M (l:List Sht) (p:Int):List Nat:=z6F l p l.length
def zgC (l:List Sht) (p:Int) (k:Nat):List Int:=(z6F l p k).map Int.ofNat
theorem zmH {l:List Sht} {p:Int} {k:Nat} (h:((za l k).paper==p)=true):zgC l p (k+1)=zgC l p k++[Int.ofNat k]:=by
 show ((bif (za l k).paper==p then z6F l p k++[k] else z6F l p k).map Int.ofNat)=_
 rw [h,cond_true,List.map_append];rfl
theorem zmI {l:List Sht} {p:Int} {k:Nat} (h:((za l k).paper==p)=false):zgC l p (k+1)=zgC l p k:=by
 show ((bif (za l k).paper==p then z6F l p k++[k] else z6F l p k).map Int.ofNat)=_
 rw [h];rfl
theorem zdw {l:List Sht} {p:Int}:∀ k,(z6F l p k).length≤k
 | 0=>Nat.le_refl _
 | k+1=>by
  have ih:=zdw (l:=l) (p:=p) k
  show (bif (za l k).paper==p then z6F l p k++[k] else z6F l p k).length≤_
  cases (za l k).paper==p with
  | true=>rw [cond_true,List.length_append];exact Nat.succ_le_succ ih
  | false=>exact Nat.le_succ_of_le ih
theorem z7r {l:List Sht} {p:Int}:∀ k,∀ x∈z6F l p k,x<k
 | 0,x,h=>by cases h
 | k+1,x,h=>by
  have h:x∈(bif (za l k).paper==p then z6F l p k++[k] else z6F l p k):=h
  cases hb:(za l k).paper==p with
  | true =>
   rw [hb,cond_true] at h
   rcases List.mem_append.1 h with h | h
   ·exact Nat.lt_succ_of_lt (z7r k x h)
   ·rw [List.mem_singleton.1 h];exact Nat.lt_succ_self _
  | false =>
   rw [hb] at h
   exact Nat.lt_succ_of_lt (z7r k x h)
theorem zdx {l:List Sht} {p:Int}:∀ k,k≤l.length→(z6F l p k).map (fun i=>za l i)=(l.take k).filter fun s=>s.paper==p
 | 0,_=>by simp [z6F]
 | k+1,hk=>by
  have ih:=zdx (l:=l) (p:=p) k (by omega)
  rw [z30 l _ (by omega),←ih]
  show ((bif (za l k).paper==p then z6F l p k++[k] else z6F l p k).map _)=(bif (za l k).paper==p then _ else _)
  cases (za l k).paper==p with
  | true=>rw [cond_true,cond_true,List.map_append];rfl
  | false=>rfl
theorem z3n {l:List Sht} {p:Int}:(z4M l p).map (fun i=>za l i)=zJ l p:=by
 unfold z4M
 rw [zdx _ (Nat.le_refl _),List.take_length];rfl
def zG (h:Hp) (p:Int):List (List Nat):=z2q h (z4M h.st p).length [] (z4M h.st p)
set_option maxHeartbeats 8000000 in
theorem zky {h:Hp} {p:Int} (hz:SzH h) (hO:OkH h):VP (sE r) 90 [.agg ((eHp h).map .p),iv p] (.p (zlr h (zG h p))):=by
 have hst:=hO.st
 have hl7:(z4M h.st p).length≤7:=by
  have:=z2G hO p
  rw [←z3n,List.length_map] at this;exact this
 refine VP.of (fn:=Tryz.f90) z7 (zu rfl) (by kernel_rfl) rfl rfl rfl ?_
 refine VSt.go z7 false [] 200 rfl AllP.n ?_
 refine z01 (zb 0 (eHp h) rfl rfl) ?_
 refine z01 (z1y 0 1 (fL []) 3 rfl) ?_
 refine z09 (ti:=6) h.st.length [1,2] (fun k=>[(5,.acc true 0 1 (zgC h.st p k).length)]) (fun k=>[(0,.acc (zgC h.st p k).length 1 (fL (zgC h.st p k)) 3)]) (fun _=>True) rfl rfl (z0K rfl z0o z0l) (LImp.refl _) trivial (fun k hk _=>?_)
 have hlen:(zgC h.st p k).length≤k:=by unfold zgC;rw [List.length_map];exact zdw k
 refine VSt.go z7 false [] 200 rfl AllP.n ?_
 refine VSt.cond rfl (fun g=>?_) (fun g=>?_)
 ·have g:=nlt g
  refine VSt.go z7 false [] 200 rfl (AllP.c ‹_› (AllP.c rfl AllP.n)) ?_
  refine VSt.cond rfl (fun h1=>?_) (fun h1=>?_)
  ·have h1:((za h.st k).paper==p)=true:=h1
   have e:=zmH h1
   have hN:=congrArg List.length e
   rw [List.length_append,List.length_singleton] at hN
   refine VSt.go z7 false [] 200 rfl (AllP.c (by omega) (AllP.c (by omega) (AllP.c (fun q hq=>match q,hq with | 0,_=>rfl) (AllP.c rfl (AllP.c rfl (AllP.c rfl (AllP.c (by unfold inR;(try simp only [Int.ofNat_eq_natCast]);omega) AllP.n))))))) ?_
   refine ⟨g,?_,trivial⟩
   exact z14 (ps:=[(0,1)]) ⟨rfl,rfl,(by repeat (first | exact zo | refine zl rfl rfl rfl ?_ | refine z0z rfl rfl z16 ?_ | refine z0z rfl rfl (AImp.acc hN.symm (fun _=>rfl)) ?_)),_,rfl,⟨rfl,BImp.acc hN.symm (fun q hq=>by rw [e];exact z3V _ _ q hq),trivial⟩⟩
  ·have h1:((za h.st k).paper==p)=false:=h1
   have e:=zmI h1
   refine VSt.go z7 false [] 200 rfl (AllP.c (by unfold inR;(try simp only [Int.ofNat_eq_natCast]);omega) AllP.n) ?_
   refine ⟨g,?_,trivial⟩
   dsimp only
   rw [e]
   refine z14 (ps:=[(0,0)]) ⟨rfl,rfl,(by repeat (first | exact zo | refine zl rfl rfl rfl ?_)),_,rfl,(⟨rfl,BImp.refl _,trivial⟩)⟩
 ·have g:k=h.st.length:=by have:=nge g;omega
  subst g
  refine VSt.go z7 false [28] 200 rfl AllP.n ?_
  refine z8 (Vw.kp [26,27] [(0,0)] rfl) ?_
  refine z8 (z0t 0 rfl rfl (by (repeat (first | exact AllP.n | refine AllP.c (by first | assumption | rfl | omega | exact Nat.le_refl _ | (show 0<_;omega) | (show 1<_;omega) | (show 2<_;omega) | (show 3<_;omega) | (intro _ _;rfl) | (intro q hq;match q,hq with | 0,_=>rfl) | (unfold inR;(try simp only [Int.ofNat_eq_natCast]);omega)) ?_)))) ?_
  refine z03 26 (.agg ((eHp h).map .p)) rfl (AImp.refl _) ?_
  refine z03 27 (.p (z1v (zgC h.st p h.st.length).isEmpty (z4M h.st p))) rfl (z00 (z8S rfl)) ?_
  refine VSt.pc rfl rfl rfl rfl rfl rfl rfl rfl ((VP.imp (zl2 hz hO _ [] (z4M h.st p) true (zgC h.st p h.st.length).isEmpty rfl (by show 0+_≤7;omega) (fun k hk=>absurd hk (Nat.not_lt_zero k)) (z3l (P:=fun x=>x<h.st.length).2 (z7r _))) ⟨AImp.refl _,AImp.nil,AImp.refl _,trivial⟩)) ?_
  refine VSt.go z7 false [] 200 rfl AllP.n ?_
  exact EndsP.mk rfl rfl rfl rfl
end Go.Proofs.YtdpipdniklognaaGreat
/- Walks of the reference: orders, some, Order, Count, Nth. -/
set_option maxRecDepth 100000
namespace Go.Proofs.YtdpipdniklognaaGreat
variable {r:Rm}
theorem zaP {h:Hp} {P:Nat→Prop}:∀ f {bg lf o:List Nat},o∈z2q h f bg lf→(∀ x∈bg,P x)→(∀ x∈lf,P x)→lf.length=f→(∀ x∈o,P x)∧o.length=bg.length+f
 | 0,bg,lf,o,hm,h1,_,_=>by
  have hm:o∈(bif za8 h bg then [] else [bg]):=hm
  cases hb:za8 h bg with
  | true=>rw [hb] at hm;cases hm
  | false =>
   rw [hb] at hm
   rw [List.mem_singleton.1 hm];exact ⟨h1,rfl⟩
 | f+1,bg,lf,o,hm,h1,h2,hf=>by
  obtain ⟨i,hi,hx⟩:=List.mem_flatMap.1 (show o∈(List.range lf.length).flatMap fun i=>bif z80 h bg (zA lf i) then z2q h f (bg++[zA lf i]) (lf.eraseIdx i) else [] from hm)
  have hi:=List.mem_range.1 hi
  cases hk:z80 h bg (zA lf i) with
  | false=>rw [hk] at hx;cases hx
  | true =>
   rw [hk] at hx
   obtain ⟨h3,h4⟩:=zaP f hx (fun x hx=>by
    rcases List.mem_append.1 hx with hx | hx
    ·exact h1 x hx
    ·rw [List.mem_singleton.1 hx];exact h2 _ (z0e hi)) (fun x hx=>h2 x (List.mem_of_mem_eraseIdx hx)) (by rw [List.length_eraseIdx_of_lt hi];omega)
   exact ⟨h3,by rw [h4,List.length_append];show bg.length+1+f=_;omega⟩
theorem zd9 {h:Hp} {p:Int} {o:List Nat} (hm:o∈zG h p):(∀ x∈o,x<h.st.length)∧o.length=(z4M h.st p).length:=by
 have:=zaP (P:=fun x=>x<h.st.length) _ hm (fun x hx=>by cases hx) (z7r _) rfl
 exact ⟨this.1,by rw [this.2];show 0+_=_;omega⟩
def z3z (R:List (List Nat)) (k:Nat):List Nat:=R.getD k []
def z2J (h:Hp) (o:List Nat):List Int:=(zF h o).map (·.id)
def za7 (h:Hp) (R:List (List Nat)):Nat→List (List Int)
 | 0=>[]
 | k+1=>bif zO (zF h (z3z R k)) 12==0 then za7 h R k++[z2J h (z3z R k)] else za7 h R k
def z1n (h:Hp) (p:Int):List (List Int):=za7 h (zG h p) (zG h p).length
def fLL (l:List (List Int)):Nat→List PV:=fun k=>[eL (l.getD k [])]
def eLL (l:List (List Int)):PV:=.lst 37 l.isEmpty l.length (fLL l)
theorem zlR {l:List (List Int)} {n:Nat} (hn:n=l.length):(AV.p (.lst 37 (true&&Nat.beq n 0) n (fLL l))) = .p (eLL l):=by
 subst hn
 cases l <;> rfl
theorem z9m {h:Hp} {R:List (List Nat)}:∀ k,(za7 h R k).length≤k
 | 0=>Nat.le_refl _
 | k+1=>by
  have ih:=z9m (h:=h) (R:=R) k
  show (bif zO (zF h (z3z R k)) 12==0 then za7 h R k++[z2J h (z3z R k)] else za7 h R k).length≤_
  cases zO (zF h (z3z R k)) 12==0 with
  | true=>rw [cond_true,List.length_append];exact Nat.succ_le_succ ih
  | false=>exact Nat.le_succ_of_le ih
theorem znf (l:List (List Int)) (y:List Int) (q:Nat) (hq:q<l.length+1):(bif Nat.blt q l.length then fLL l q else ([eL y].drop ((q - l.length)*1)).take 1)=fLL (l++[y]) q:=by
 unfold fLL
 by_cases e:q<l.length
 ·rw [zhw e]
  simp only [cond_true,List.getD_eq_getElem?_getD]
  rw [List.getElem?_append_left e]
 ·have:q=l.length:=by omega
  subst this
  rw [zhx e,Nat.sub_self]
  simp
theorem zda {h:Hp} (hO:OkH h) (p:Int):(zG h p).length≤5040:=by
 have hl7:(z4M h.st p).length≤7:=by
  have:=z2G hO p
  rw [←z3n,List.length_map] at this;exact this
 exact Nat.le_trans (z57 _ rfl) (zoL hl7)
set_option maxHeartbeats 8000000 in
theorem z5E {h:Hp} {p:Int} (hz:SzH h) (hO:OkH h):VP (sE r) 104 [.agg ((eHp h).map .p),iv p] (.p (eLL (z1n h p))):=by
 have hst:=hO.st
 have hl7:(z4M h.st p).length≤7:=by
  have:=z2G hO p
  rw [←z3n,List.length_map] at this;exact this
 have hrl:=zda hO p
 refine VP.of (fn:=Tryz.f104) z7 (zu rfl) (by kernel_rfl) rfl rfl rfl ?_
 refine VSt.go z7 false [] 200 rfl AllP.n ?_
 refine z8 (zb 0 (eHp h) rfl rfl) ?_
 refine VSt.pc rfl rfl rfl rfl rfl rfl rfl rfl ((zky (p:=p) hz hO)) ?_
 refine VSt.go z7 false [] 200 rfl AllP.n ?_
 refine z01 (z1y 0 1 (fLL []) 37 rfl) ?_
 refine z09 (ti:=7) (zG h p).length [2,5] (fun k=>[(6,.acc true 0 1 (za7 h (zG h p) k).length)]) (fun k=>[(0,.acc (za7 h (zG h p) k).length 1 (fLL (za7 h (zG h p) k)) 37)]) (fun _=>True) rfl rfl (z0K rfl z0o z0l) (LImp.refl _) trivial (fun k hk _=>?_)
 have hlen:=z9m (h:=h) (R:=zG h p) k
 refine VSt.go z7 false [] 200 rfl AllP.n ?_
 refine VSt.cond rfl (fun g=>?_) (fun g=>?_)
 rotate_left
 ·have g:k=(zG h p).length:=by have:=nge g;omega
  subst g
  refine VSt.go z7 false [4] 200 rfl AllP.n ?_
  refine z8 (Vw.kp [55] [(0,0)] rfl) ?_
  refine z8 (z0t 0 rfl rfl (by (repeat (first | exact AllP.n | refine AllP.c (by first | assumption | rfl | omega | exact Nat.le_refl _ | (show 0<_;omega) | (show 1<_;omega) | (show 2<_;omega) | (show 3<_;omega) | (intro _ _;rfl) | (intro q hq;match q,hq with | 0,_=>rfl) | (unfold inR;(try simp only [Int.ofNat_eq_natCast]);omega)) ?_)))) ?_
  refine VSt.go z7 false [] 200 rfl AllP.n ?_
  exact EndsP.mk rfl rfl rfl (zlR rfl)
 have g:=nlt g
 have hmem:z3z (zG h p) k∈zG h p:=z0e g
 obtain ⟨hin,hol⟩:=zd9 hmem
 have hin:=z3l (P:=fun x=>x<h.st.length).2 hin
 have hom:((z3z (zG h p) k).map Int.ofNat).length=(z3z (zG h p) k).length:=List.length_map _
 have hsl:(zF h (z3z (zG h p) k)).length=(z3z (zG h p) k).length:=List.length_map _
 have eK:za7 h (zG h p) (k+1)=bif zO (zF h (z3z (zG h p) k)) 12==0 then za7 h (zG h p) k++[z2J h (z3z (zG h p) k)] else za7 h (zG h p) k:=rfl
 refine VSt.go z7 false [] 200 rfl (AllP.c ‹_› (AllP.c rfl AllP.n)) ?_
 refine VSt.cond rfl (fun h1=>?_) (fun h1=>?_)
 ·have h1:(!(Int.ofNat (zO (zF h (z3z (zG h p) k)) 12)==0))=true:=h1
  have h2:(zO (zF h (z3z (zG h p) k)) 12==0)=false:=by rw [z48] at h1;simpa using h1
  rw [h2] at eK
  refine VSt.go z7 false [] 200 rfl (AllP.c (by unfold inR;(try simp only [Int.ofNat_eq_natCast]);omega) AllP.n) ?_
  refine ⟨g,?_,trivial⟩
  dsimp only
  rw [eK]
  refine z14 (ps:=[(0,0)]) ⟨rfl,rfl,(by repeat (first | exact zo | refine zl rfl rfl rfl ?_)),_,rfl,(⟨rfl,BImp.refl _,trivial⟩)⟩
 have h1:(!(Int.ofNat (zO (zF h (z3z (zG h p) k)) 12)==0))=false:=h1
 have h2:(zO (zF h (z3z (zG h p) k)) 12==0)=true:=by rw [z48] at h1;simpa using h1
 rw [h2,cond_true] at eK
 refine VSt.go z7 false [] 200 rfl AllP.n ?_
 refine z01 (z1y 1 1 (fL []) 3 rfl) ?_
 refine z09 (ti:=9) (z3z (zG h p) k).length [2,5,6,7] (fun q=>[(8,.acc true 1 1 (((zF h (z3z (zG h p) k)).take q).map (·.id)).length)]) (fun q=>[(1,.acc (((zF h (z3z (zG h p) k)).take q).map (·.id)).length 1 (fL (((zF h (z3z (zG h p) k)).take q).map (·.id))) 3),(0,.acc (za7 h (zG h p) k).length 1 (fLL (za7 h (zG h p) k)) 37)]) (fun _=>True) rfl rfl (z0K rfl z0o z0l) (LImp.refl _) trivial (fun q hq _=>?_)
 refine VSt.go z7 false [] 200 rfl (AllP.c ‹_› (AllP.c rfl AllP.n)) ?_
 refine VSt.cond rfl (fun g2=>?_) (fun g2=>?_)
 ·have g2:q<((z3z (zG h p) k).map Int.ofNat).length:=nlt g2
  rw [hom] at g2
  have hqm:q<((z3z (zG h p) k).map Int.ofNat).length:=by omega
  have hx:=hin q g2
  have e:=z9v (f:=fun s:Sht=>s.id) (show q<(zF h (z3z (zG h p) k)).length by omega)
  rw [show (zF h (z3z (zG h p) k)).getD q default=za h.st (zA (z3z (zG h p) k) q) from z96 g2] at e
  have hN:=congrArg List.length e
  rw [List.length_append,List.length_singleton] at hN
  have hlq:(((zF h (z3z (zG h p) k)).take q).map (·.id)).length=q:=by rw [List.length_map,List.length_take];omega
  refine VSt.go z7 false [46] 200 rfl (AllP.c ‹_› (AllP.c rfl (AllP.c ‹_› (AllP.c rfl AllP.n)))) ?_
  refine zi 45 (nv (zA (z3z (zG h p) k) q)) rfl (z0I z1a) ?_
  refine VSt.go z7 false [] 200 rfl (AllP.c ‹_› (AllP.c rfl (AllP.c (by omega) (AllP.c (by omega) (AllP.c (fun q hq=>match q,hq with | 0,_=>rfl) (AllP.c rfl (AllP.c rfl (AllP.c rfl (AllP.c (by unfold inR;(try simp only [Int.ofNat_eq_natCast]);omega) AllP.n))))))))) ?_
  refine ⟨g2,?_,trivial⟩
  exact z14 (ps:=[(1,2),(0,0)]) ⟨rfl,rfl,(by repeat (first | exact zo | refine zl rfl rfl rfl ?_ | refine z0z rfl rfl z16 ?_ | refine z0z rfl rfl (AImp.acc hN.symm (fun _=>rfl)) ?_)),_,rfl,⟨rfl,BImp.acc hN.symm (fun x hx=>by rw [e];exact z3V _ _ x hx),rfl,BImp.refl _,trivial⟩⟩
 have g2:((z3z (zG h p) k).map Int.ofNat).length≤q:=nge g2
 rw [hom] at g2
 have g3:q=(z3z (zG h p) k).length:=by omega
 subst g3
 have htk:(zF h (z3z (zG h p) k)).take (z3z (zG h p) k).length=zF h (z3z (zG h p) k):=by rw [←hsl,List.take_length]
 have hN:=congrArg List.length eK
 rw [List.length_append,List.length_singleton] at hN
 rw [htk]
 refine VSt.go z7 false [53] 200 rfl AllP.n ?_
 refine z8 (Vw.kp [2,5,7,51,52] [(0,0),(1,1)] rfl) ?_
 refine z8 (z0t 1 rfl rfl (by (repeat (first | exact AllP.n | refine AllP.c (by first | assumption | rfl | omega | exact Nat.le_refl _ | (show 0<_;omega) | (show 1<_;omega) | (show 2<_;omega) | (show 3<_;omega) | (intro _ _;rfl) | (intro q hq;match q,hq with | 0,_=>rfl) | (unfold inR;(try simp only [Int.ofNat_eq_natCast]);omega)) ?_)))) ?_
 refine z03 52 (.p (eL (z2J h (z3z (zG h p) k)))) rfl (z00 (z8S rfl)) ?_
 refine VSt.go z7 false [] 200 rfl (AllP.c (by omega) (AllP.c (by omega) (AllP.c (fun q hq=>match q,hq with | 0,_=>rfl) (AllP.c rfl (AllP.c rfl (AllP.c rfl (AllP.c (by unfold inR;(try simp only [Int.ofNat_eq_natCast]);omega) AllP.n))))))) ?_
 refine ⟨g,?_,trivial⟩
 exact z14 (ps:=[(0,1)]) ⟨rfl,rfl,(by repeat (first | exact zo | refine zl rfl rfl rfl ?_ | refine z0z rfl rfl z16 ?_ | refine z0z rfl rfl (AImp.acc hN.symm (fun _=>rfl)) ?_)),_,rfl,⟨rfl,BImp.acc hN.symm (fun x hx=>by rw [eK];exact znf _ _ x hx),trivial⟩⟩
end Go.Proofs.YtdpipdniklognaaGreat
/- Plain: the reference's orders are the program's. -/
set_option maxRecDepth 100000
namespace Go.Proofs.YtdpipdniklognaaGreat
theorem zkl {h:Hp} (n:OkH h) (s:Sht):za6 h s = !(toS h s.id==0):=by
 rcases zaj n s.id with ⟨j,hj,h1,h2⟩ | ⟨h1,h2⟩
 ·have h3:za6 h s=true:=za3 (p:=fun x:Sew=>x.fro==s.id) hj (by show ((zy h.sw j).fro==s.id)=true;rw [h1,beq_self_eq_true])
  have h4:(toS h s.id==0)=false:=by
   rw [←Bool.not_eq_true,beq_iff_eq,h2]
   have:=(n.pos hj).2;omega
  rw [h3,h4];rfl
 ·have h3:za6 h s=false:=z6T (p:=fun x:Sew=>x.fro==s.id) fun k hk=>by
   rw [←Bool.not_eq_true,beq_iff_eq];exact h1 k hk
  rw [h3,h2];rfl
theorem zlo {h:Hp} (n:OkH h) (s:Sht):zeb h s = !(frS h s.id==0):=by
 rcases zbb n s.id with ⟨j,hj,h1,h2⟩ | ⟨h1,h2⟩
 ·have h3:zeb h s=true:=za3 (p:=fun x:Sew=>x.too==s.id) hj (by show ((zy h.sw j).too==s.id)=true;rw [h1,beq_self_eq_true])
  have h4:(frS h s.id==0)=false:=by
   rw [←Bool.not_eq_true,beq_iff_eq,h2]
   have:=(n.pos hj).1;omega
  rw [h3,h4];rfl
 ·have h3:zeb h s=false:=z6T (p:=fun x:Sew=>x.too==s.id) fun k hk=>by
   rw [←Bool.not_eq_true,beq_iff_eq];exact h1 k hk
  rw [h3,h2];rfl
theorem zmE {h:Hp} (n:OkH h) {i k:Nat} {x y:Sht} (hik:i≠k) (hp:x.paper=y.paper):z5D h i k x y=zch h x y:=by
 unfold z5D zch
 rw [←zme n,show (i==k)=false by rw [←Bool.not_eq_true,beq_iff_eq];exact hik,hp,beq_self_eq_true]
 generalize ((toS h x.id==0||toS h x.id==y.id)&&(frS h y.id==0||frS h y.id==x.id))=T
 cases (x.catch_==y.first) <;> cases (x.catch_==0) <;> cases (y.first==0) <;> cases T <;> rfl
def zdS (h:Hp) (l:List Sht) (row:List Nat):Prop:=∀ k,k+1<row.length→zch h (za (zP l row) k) (za (zP l row) (k+1))=true
theorem zeL {h:Hp} {l:List Sht} {row:List Nat} {i:Nat} (hc:zdS h l row) (hok:okR h l row i=true):zdS h l (i::row):=fun k hk=>by
 have hk:k+1<row.length+1:=hk
 cases row with
 | nil=>exact absurd hk (by show ¬ k+1<0+1;omega)
 | cons j t =>
  have hcf:(j::t).contains i=false:=by
   rw [←Bool.not_eq_true];intro g;rw [zca g] at hok;cases hok
  rw [z6A hcf] at hok
  have ht:(j::t).length=t.length+1:=rfl
  by_cases c:k+1<(j::t).length
  ·rw [z4V (by omega),z4V c];exact hc k c
  ·have e:k=t.length:=by omega
   subst e
   rw [z4V (show t.length<(j::t).length by omega),z7c,show t.length+1=(j::t).length from rfl,z7c];exact hok
def zoM (h:Hp) (l:List Sht):List Nat→Bool
 | []=>true
 | i::_=>toS h (za l i).id==0
theorem zfD {h:Hp} {l:List Sht} {row:List Nat} (hc:zdS h l row):zbO h (zP l row)=zoM h l row:=by
 have hlen:=z2x (l:=l) (row:=row)
 cases row with
 | nil=>rfl
 | cons i t =>
  have ht:(i::t).length=t.length+1:=rfl
  have hlast:za (zP l (i::t)) t.length=za l i:=z7c
  show _=(toS h (za l i).id==0)
  cases h0:toS h (za l i).id==0 with
  | true =>
   refine allB_iff.2 fun k hk=>?_
   by_cases c:k=t.length
   ·unfold okT;rw [c,hlast,h0];rfl
   ·have h1:=hc k (by omega)
    unfold okT
    unfold zch at h1
    rw [Bool.and_eq_true,Bool.and_eq_true] at h1
    have h3:=h1.2.1
    rw [Bool.or_eq_true] at h3 ⊢
    rcases h3 with h2 | h2
    ·exact .inl h2
    ·exact .inr (by rw [decide_eq_true (show k+1<(zP l (i::t)).length by omega),eq_of_beq h2,beq_self_eq_true];rfl)
  | false =>
   refine z4n (k:=t.length) (by omega) ?_
   unfold okT
   rw [hlast,h0,decide_eq_false (show ¬ t.length+1<(zP l (i::t)).length by omega)];rfl
theorem z7q {l:List Sht} {p:Int}:∀ k,(z6F l p k).Pairwise (· < ·)
 | 0=>List.Pairwise.nil
 | k+1=>by
  have ih:=z7q (l:=l) (p:=p) k
  show (bif (za l k).paper==p then z6F l p k++[k] else z6F l p k).Pairwise _
  cases (za l k).paper==p with
  | false=>exact ih
  | true =>
   rw [cond_true,List.pairwise_append]
   exact ⟨ih,List.pairwise_singleton _ _,fun a ha b hb=>by rw [List.mem_singleton.1 hb];exact z7r k a ha⟩
theorem zdn {A:List Nat} (hA:A.Nodup) {i k:Nat} (hi:i<A.length) (hk:k<A.length) (e:zA A i=zA A k):i=k:=by
 unfold zA at e
 rw [z0a hi,z0a hk] at e
 exact (List.getElem_inj hA).1 e
theorem z2E {A:List Nat} (hA:A.Nodup) {i:Nat} (hi:i<A.length):A.eraseIdx i=A.filter fun x=>!(x==zA A i):=by
 have e:A=A.take i++zA A i::A.drop (i+1):=by
  unfold zA
  rw [z0a hi,List.getElem_cons_drop,List.take_append_drop]
 have hA2:=hA
 generalize zA A i=z at *
 rw [e,List.nodup_append,List.nodup_cons] at hA2
 rw [List.eraseIdx_eq_take_drop_succ]
 conv=>rhs;rw [e]
 rw [List.filter_append,List.filter_cons_of_neg (by rw [beq_self_eq_true];decide)]
 congr 1
 ·refine (List.filter_eq_self.2 fun x hx=>?_).symm
  have:=hA2.2.2 x hx z (List.mem_cons_self ..)
  simpa using this
 ·refine (List.filter_eq_self.2 fun x hx=>?_).symm
  have:x≠z:=fun g=>hA2.2.1.1 (g ▸ hx)
  simpa using this
theorem zj0 {β : Type} (H:Nat→List β) (A:List Nat):(List.range A.length).flatMap (fun i=>H (zA A i))=A.flatMap H:=by
 have e:A=(List.range A.length).map fun i=>zA A i:=by
  refine List.ext_getElem (by rw [List.length_map,List.length_range]) fun k h1 h2=>?_
  rw [List.getElem_map,List.getElem_range]
  exact (z0a h1).symm
 conv=>rhs;rw [e,List.flatMap_map]
theorem z4f {β : Type} {H K:Nat→List β}:∀ {A:List Nat},(∀ x∈A,H x=K x)→A.flatMap H=A.flatMap K
 | [],_=>rfl
 | x::A,h=>by
  rw [List.flatMap_cons,List.flatMap_cons,h x (List.mem_cons_self ..),z4f fun y hy=>h y (List.mem_cons_of_mem _ hy)]
theorem z4E {β : Type} (q:Nat→Bool) (H:Nat→List β):∀ A:List Nat,(A.filter q).flatMap H=A.flatMap fun x=>bif q x then H x else []
 | []=>rfl
 | x::A=>by
  rw [List.flatMap_cons]
  cases hq:q x with
  | true=>rw [List.filter_cons_of_pos hq,List.flatMap_cons,z4E q H A];rfl
  | false=>rw [List.filter_cons_of_neg (by rw [hq];decide),z4E q H A];rfl
def lfL (n:Nat) (row:List Nat):List Nat:=(List.range n).filter fun i=>!row.contains i
theorem zdu {n:Nat} {row:List Nat} {e:Nat}:(lfL n row).filter (fun x=>!(x==e))=lfL n (e::row):=by
 unfold lfL
 rw [List.filter_filter]
 congr 1
 funext i
 rw [List.contains_cons]
 cases (i==e) <;> cases row.contains i <;> rfl
theorem zgA {n:Nat} {row:List Nat}:(lfL n row).Nodup:=List.nodup_range.sublist List.filter_sublist
theorem zkY {A:List Nat} {g:Nat→Nat} {i:Nat} (hi:i<A.length):zA (A.map g) i=g (zA A i):=by
 unfold zA
 rw [z0a (show i<(A.map g).length by rw [List.length_map];exact hi),List.getElem_map,z0a hi]
theorem zbj {g:Nat→Nat}:∀ {A:List Nat} {i:Nat},(A.map g).eraseIdx i=(A.eraseIdx i).map g
 | [],_=>by simp
 | a::A,0=>rfl
 | a::A,i+1=>by
  show g a::(A.map g).eraseIdx i=g a::(A.eraseIdx i).map g
  rw [zbj]
theorem zaO {h:Hp} (n:OkH h) {l:List Sht} {g:Nat→Nat} (hg:∀ i,i<l.length→za l i=za h.st (g i)) (hinj:∀ i k,i<l.length→k<l.length→i≠k→g i≠g k) (hpp:∀ i k,i<l.length→k<l.length→(za l i).paper=(za l k).paper) :
  ∀ f (row:List Nat),f+row.length=l.length→(∀ i∈row,i<l.length)→zdS h l row→(lfL l.length row).length=f →
   z2q h f (row.map g).reverse ((lfL l.length row).map g)=((z6r h l f row).filter fun x=>zbO h (zP l x)).map fun x=>(x.map g).reverse
 | 0,row,hn,hlt,hc,_=>by
  have ht:=zfD hc
  show (bif za8 h (row.map g).reverse then [] else [(row.map g).reverse])=([row].filter _).map _
  have he:za8 h (row.map g).reverse = !zoM h l row:=by
   cases row with
   | nil=>rfl
   | cons i t =>
    have hi:=hlt i (List.mem_cons_self ..)
    have hl:z1A ((i::t).map g).reverse=g i:=by
     unfold z1A zA
     rw [List.map_cons,List.reverse_cons,List.getD_eq_getElem?_getD,List.length_append,List.getElem?_append_right (by simp)]
     simp
    have hz:Nat.beq ((i::t).map g).reverse.length 0=false:=z2p (by rw [List.length_reverse,List.length_map];exact Nat.succ_ne_zero _)
    unfold za8
    rw [hz,hl,cond_false,zkl n,←hg i hi];rfl
  rw [he,←ht]
  cases hb:zbO h (zP l row) with
  | true=>rw [List.filter_cons,if_pos hb];rfl
  | false=>rw [List.filter_cons,if_neg (by rw [hb];decide)];rfl
 | f+1,row,hn,hlt,hc,hf=>by
  have hA:=zgA (n:=l.length) (row:=row)
  have hAm:∀ e∈lfL l.length row,e<l.length∧row.contains e=false:=fun e he=>by
   obtain ⟨h1,h2⟩:=List.mem_filter.1 he
   exact ⟨List.mem_range.1 h1,by simpa using h2⟩
  -- the reference's side,element by element
  have e1:z2q h (f+1) (row.map g).reverse ((lfL l.length row).map g)=(lfL l.length row).flatMap fun e=>bif z80 h (row.map g).reverse (g e) then z2q h f ((e::row).map g).reverse ((lfL l.length (e::row)).map g) else []:=by
   rw [←zj0]
   show (List.range ((lfL l.length row).map g).length).flatMap _=_
   rw [List.length_map]
   refine z4f fun i hi=>?_
   have hi:=List.mem_range.1 hi
   rw [zkY hi,←zdu,←z2E hA hi,List.map_cons,List.reverse_cons]
   congr 2
   rw [zbj]
  have e2:z6r h l (f+1) row=(lfL l.length row).flatMap fun e=>bif okR h l row e then z6r h l f (e::row) else []:=by
   unfold lfL
   rw [z4E]
   refine z4f fun i hi=>?_
   cases hcn:row.contains i with
   | true=>rw [zca hcn];rfl
   | false=>rfl
  rw [e1,e2,List.filter_flatMap,List.map_flatMap]
  refine z4f fun e he=>?_
  obtain ⟨h1,h2⟩:=hAm e he
  have hcan:z80 h (row.map g).reverse (g e)=okR h l row e:=by
   cases row with
   | nil =>
    show (!zeb h (za h.st (g e)))=(frS h (za l e).id==0)
    rw [zlo n,←hg e h1,Bool.not_not]
   | cons j t =>
    have hj:=hlt j (List.mem_cons_self ..)
    have hl:z1A ((j::t).map g).reverse=g j:=by
     unfold z1A zA
     rw [List.map_cons,List.reverse_cons,List.getD_eq_getElem?_getD,List.length_append,List.getElem?_append_right (by simp)]
     simp
    have hje:j≠e:=fun x=>by
     rw [x,List.contains_cons,beq_self_eq_true] at h2;cases h2
    rw [z6A h2,znt (m:=t.length) (by rw [List.length_reverse,List.length_map];rfl),hl,←hg j hj,←hg e h1,zmE n (hinj j e hj h1 hje) (hpp j e hj h1)]
  rw [hcan]
  cases hok:okR h l row e with
  | false=>rfl
  | true =>
   rw [cond_true,cond_true]
   refine zaO n hg hinj hpp f (e::row) (by show f+(row.length+1)=_;omega) (fun i hi=>?_) (zeL hc hok) ?_
   ·rcases List.mem_cons.1 hi with rfl | hi
    ·exact h1
    ·exact hlt i hi
   ·rw [←zdu]
    obtain ⟨k,hk,ek⟩:=z0u (d:=0) he
    have:=z2E hA hk
    rw [show zA (lfL l.length row) k=e from ek] at this
    rw [←this,List.length_eraseIdx_of_lt hk];omega
theorem z9n {h:Hp} {R:List (List Nat)}:∀ k,k≤R.length→za7 h R k=((R.take k).filter fun o=>zO (zF h o) 12==0).map (z2J h)
 | 0,_=>by simp [za7]
 | k+1,hk=>by
  have ih:=z9n (h:=h) (R:=R) k (by omega)
  have e:R.take (k+1)=R.take k++[z3z R k]:=by
   rw [List.take_add_one]
   unfold z3z
   rw [List.getD_eq_getElem?_getD,List.getElem?_eq_getElem (by omega)];rfl
  rw [e,List.filter_append,List.map_append,←ih]
  show (bif zO (zF h (z3z R k)) 12==0 then za7 h R k++[z2J h (z3z R k)] else za7 h R k)=_
  cases hb:zO (zF h (z3z R k)) 12==0 with
  | true=>rw [List.filter_cons,if_pos hb];rfl
  | false=>rw [List.filter_cons,if_neg (by rw [hb];decide)];simp
theorem z9d {h:Hp} (n:OkH h) (p:Int):z1n h p=(zM h p).map (zb7 h p):=by
 have hb:=z3n (l:=h.st) (p:=p)
 have hlen:(z4M h.st p).length=(zJ h.st p).length:=by rw [←hb,List.length_map]
 have hg:∀ i,i<(zJ h.st p).length→za (zJ h.st p) i=za h.st (zA (z4M h.st p) i):=fun i hi=>by
  have hi2:i<(z4M h.st p).length:=by omega
  rw [←hb]
  exact z96 (h:=h) hi2
 have hnd:(z4M h.st p).Nodup:=(z7q (l:=h.st) (p:=p) h.st.length).imp fun h=>Nat.ne_of_lt h
 have hinj:∀ i k,i<(zJ h.st p).length→k<(zJ h.st p).length→i≠k→zA (z4M h.st p) i≠zA (z4M h.st p) k:=fun i k hi hk hne e=>hne (zdn hnd (by omega) (by omega) e)
 have hpap:∀ i,i<(zJ h.st p).length→(za (zJ h.st p) i).paper=p:=fun i hi=>by
  have h1:za (zJ h.st p) i∈zJ h.st p:=z0e hi
  exact eq_of_beq (List.mem_filter.1 h1).2
 have hl0:lfL (zJ h.st p).length []=List.range (zJ h.st p).length:=List.filter_eq_self.2 fun _ _=>rfl
 have hmap:(List.range (zJ h.st p).length).map (zA (z4M h.st p))=z4M h.st p:=by
  refine List.ext_getElem (by rw [List.length_map,List.length_range,hlen]) fun k h1 h2=>?_
  rw [List.getElem_map,List.getElem_range]
  exact z0a h2
 have key:=zaO n hg hinj (fun i k hi hk=>by rw [hpap i hi,hpap k hk]) (zJ h.st p).length [] rfl (fun i hi=>by cases hi) (fun k hk=>absurd hk (Nat.not_lt_zero _)) (by rw [hl0,List.length_range])
 rw [hl0,hmap] at key
 have hruns:zG h p=((z87 h (zJ h.st p)).filter fun x=>zbO h (zP (zJ h.st p) x)).map fun x=>(x.map (zA (z4M h.st p))).reverse:=by
  unfold zG
  rw [hlen];exact key
 unfold z1n
 rw [z9n _ (Nat.le_refl _),List.take_length,hruns,List.filter_map,List.map_map,List.filter_filter]
 have hsh:∀ x∈z87 h (zJ h.st p),zF h (x.map (zA (z4M h.st p))).reverse=zP (zJ h.st p) x:=fun x hx=>by
  have hm:=z9b hx
  unfold zF zP
  rw [←List.map_reverse,List.map_map]
  refine List.map_congr_left fun i hi=>?_
  exact (hg i (hm i (List.mem_reverse.1 hi))).symm
 unfold zM
 have hf:(z87 h (zJ h.st p)).filter (fun a=>((fun o=>zO (zF h o) 12==0) ∘ fun x=>(x.map (zA (z4M h.st p))).reverse) a&&zbO h (zP (zJ h.st p) a))=(z87 h (zJ h.st p)).filter (zeE h (zJ h.st p)):=by
  refine List.filter_congr fun x hx=>?_
  show ((zO (zF h (x.map (zA (z4M h.st p))).reverse) 12==0)&&zbO h (zP (zJ h.st p) x))=(zbO h (zP (zJ h.st p) x)&&(zO (zP (zJ h.st p) x) 12==0))
  rw [hsh x hx,Bool.and_comm]
 rw [hf]
 refine List.map_congr_left fun x hx=>?_
 show z2J h (x.map (zA (z4M h.st p))).reverse=zb7 h p x
 unfold z2J zb7
 rw [hsh x (List.mem_filter.1 hx).1]
end Go.Proofs.YtdpipdniklognaaGreat
/- Walks: Order, Count, Nth, CheckOrder of both sides. -/
set_option maxRecDepth 100000
namespace Go.Proofs.YtdpipdniklognaaGreat
variable {r:Rm}
theorem z4W {h:Hp} (n:OkH h) (p:Int):(z1n h p).length=(zM h p).length:=by rw [z9d n,List.length_map]
theorem zgs {h:Hp} (n:OkH h) (p:Int) (m:Nat):(z1n h p).getD m []=zcd h p m:=by
 rw [z9d n]
 unfold zcd
 rw [List.getD_eq_getElem?_getD,List.getElem?_map]
 cases (zM h p)[m]? <;> rfl
theorem zis {h:Hp} (n:OkH h) (p:Int):(zM h p).length≤5040:=by
 rw [←z4W n]
 exact Nat.le_trans (z9m _) (zda n p)
noncomputable def zgg (h:Hp) (p:Int):Int:=if ppE h p=0 then (if 0<(zM h p).length then 0 else 55) else ppE h p
noncomputable def zer (h:Hp) (p:Int):List Int:=if ppE h p=0 then zcd h p 0 else []
theorem z7l {h:Hp} {p:Int} (e:¬ ppE h p=0):zgg h p=ppE h p∧zer h p=[]:=⟨if_neg e,if_neg e⟩
theorem zjs {h:Hp} {p:Int} (hz:SzH h):VP (sE r) 39 [.agg ((eHp h).map .p),iv p] (.tup [.p (eL (zer h p)),iv (zgg h p)]):=by
 have hc:=z44 (r:=r) (p:=p) hz
 rcases z18 h p with ⟨hO,e⟩ | e
 rotate_left
 ·rw [(z7l (z3J e)).1,(z7l (z3J e)).2]
  refine VP.of (fn:=Tryz.f39) z7 (zu rfl) (by kernel_rfl) rfl rfl rfl ?_
  refine VSt.go z7 false [] 200 rfl AllP.n ?_
  refine z8 (zb 0 (eHp h) rfl rfl) ?_
  refine VSt.pc rfl rfl rfl rfl rfl rfl rfl rfl (hc) ?_
  refine VSt.go z7 false [] 200 rfl AllP.n ?_
  refine VSt.cond rfl (fun _=>?_) (fun q=>absurd (q.symm.trans e) (by decide))
  refine VSt.go z7 false [] 200 rfl AllP.n ?_
  refine ⟨rfl,_,rfl,rfl,?_⟩
  exact AImp.tup ⟨AImp.nil,AImp.refl _,trivial⟩
 rw [show zgg h p=(if 0<(zM h p).length then 0 else 55) from if_pos e,show zer h p=zcd h p 0 from if_pos e]
 rw [e] at hc
 refine VP.of (fn:=Tryz.f39) z7 (zu rfl) (by kernel_rfl) rfl rfl rfl ?_
 refine VSt.go z7 false [] 200 rfl AllP.n ?_
 refine z8 (zb 0 (eHp h) rfl rfl) ?_
 refine VSt.pc rfl rfl rfl rfl rfl rfl rfl rfl (hc) ?_
 refine VSt.go z7 false [] 200 rfl AllP.n ?_
 refine VSt.cond rfl (fun q=>absurd q (by decide)) (fun _=>?_)
 refine VSt.go z7 false [] 200 rfl AllP.n ?_
 refine VSt.pc rfl rfl rfl rfl rfl rfl rfl rfl ((zjJ (p:=p) (m:=0) hz hO (by decide))) ?_
 refine VSt.go z7 false [] 200 rfl AllP.n ?_
 refine VSt.cond rfl (fun q=>?_) (fun q=>?_)
 ·have q:(!decide (0<(zM h p).length))=true:=q
  have q2:¬ 0<(zM h p).length:=by simpa using q
  rw [if_neg q2,zcc (by omega)]
  refine VSt.go z7 false [] 200 rfl AllP.n ?_
  refine ⟨rfl,_,rfl,rfl,?_⟩
  exact AImp.tup ⟨AImp.nil,AImp.refl _,trivial⟩
 ·have q:(!decide (0<(zM h p).length))=false:=q
  have q2:0<(zM h p).length:=by simpa using q
  rw [if_pos q2]
  refine VSt.go z7 false [] 200 rfl AllP.n ?_
  exact EndsP.mk rfl rfl rfl rfl
noncomputable def znl (h:Hp) (p:Int):List (List Int):=if ppE h p=0 then z1n h p else []
theorem zkn {h:Hp} {p:Int} (hz:SzH h):VP (sE r) 64 [.agg ((eHp h).map .p),iv p] (.tup [.p (eLL (znl h p)),iv (zgg h p)]):=by
 have hc:=z3f (r:=r) (p:=p) hz
 rcases z18 h p with ⟨hO,e⟩ | e
 rotate_left
 ·rw [(z7l (z3J e)).1,show znl h p=[] from if_neg (z3J e)]
  refine VP.of (fn:=Tryz.f64) z7 (zu rfl) (by kernel_rfl) rfl rfl rfl ?_
  refine VSt.go z7 false [] 200 rfl AllP.n ?_
  refine z8 (zb 0 (eHp h) rfl rfl) ?_
  refine VSt.pc rfl rfl rfl rfl rfl rfl rfl rfl (hc) ?_
  refine VSt.go z7 false [] 200 rfl AllP.n ?_
  refine VSt.cond rfl (fun _=>?_) (fun q=>absurd (q.symm.trans e) (by decide))
  refine VSt.go z7 false [] 200 rfl AllP.n ?_
  refine ⟨rfl,_,rfl,rfl,?_⟩
  exact AImp.tup ⟨AImp.nil,AImp.refl _,trivial⟩
 have hlen:=z4W hO p
 rw [show zgg h p=(if 0<(zM h p).length then 0 else 55) from if_pos e,show znl h p=z1n h p from if_pos e]
 rw [e] at hc
 refine VP.of (fn:=Tryz.f64) z7 (zu rfl) (by kernel_rfl) rfl rfl rfl ?_
 refine VSt.go z7 false [] 200 rfl AllP.n ?_
 refine z8 (zb 0 (eHp h) rfl rfl) ?_
 refine VSt.pc rfl rfl rfl rfl rfl rfl rfl rfl (hc) ?_
 refine VSt.go z7 false [] 200 rfl AllP.n ?_
 refine VSt.cond rfl (fun q=>absurd q (by decide)) (fun _=>?_)
 refine VSt.go z7 false [] 200 rfl AllP.n ?_
 refine VSt.pc rfl rfl rfl rfl rfl rfl rfl rfl ((z5E (p:=p) hz hO)) ?_
 refine VSt.go z7 false [] 200 rfl AllP.n ?_
 refine VSt.cond rfl (fun q=>?_) (fun q=>?_)
 ·have q:(Int.ofNat (z1n h p).length==0)=true:=q
  have q2:(z1n h p).length=0:=by
   have:=eq_of_beq q
   simp only [Int.ofNat_eq_natCast] at this
   omega
  rw [if_neg (by omega),show z1n h p=[] from List.length_eq_zero_iff.1 q2]
  refine VSt.go z7 false [] 200 rfl AllP.n ?_
  refine ⟨rfl,_,rfl,rfl,?_⟩
  exact AImp.tup ⟨AImp.nil,AImp.refl _,trivial⟩
 ·have q:(Int.ofNat (z1n h p).length==0)=false:=q
  have q2:(z1n h p).length≠0:=fun g=>by rw [g] at q;exact absurd q (by decide)
  rw [if_pos (by omega)]
  refine VSt.go z7 false [] 200 rfl AllP.n ?_
  exact EndsP.mk rfl rfl rfl rfl
theorem zg2 {h:Hp} {p:Int} (hz:SzH h):VP (sE r) 44 [.agg ((eHp h).map .p),iv p] (.tup [.p (eL (zer h p)),iv (zgg h p)]):=by
 have hs:=zkn (r:=r) (p:=p) hz
 by_cases e:zgg h p=0
 ·have ⟨hO,e1⟩:OkH h∧ppE h p=0:=by
   rcases z18 h p with g | g
   ·exact g
   ·rw [(z7l (z3J g)).1] at e;exact absurd e (z3J g)
  have hpos:0<(z1n h p).length:=by
   rw [z4W hO]
   refine Nat.pos_of_ne_zero fun g=>?_
   unfold zgg at e
   rw [if_pos e1,if_neg (by omega)] at e;exact absurd e (by decide)
  rw [show znl h p=z1n h p from if_pos e1] at hs
  rw [show zer h p=(z1n h p).getD 0 [] by rw [zgs hO];exact if_pos e1]
  rw [e] at hs ⊢
  refine VP.of (fn:=Tryz.f44) z7 (zu rfl) (by kernel_rfl) rfl rfl rfl ?_
  refine VSt.go z7 false [] 200 rfl AllP.n ?_
  refine VSt.pc rfl rfl rfl rfl rfl rfl rfl rfl (hs) ?_
  refine VSt.go z7 false [] 200 rfl AllP.n ?_
  refine VSt.cond rfl (fun q=>absurd q (by decide)) (fun _=>?_)
  refine VSt.go z7 false [] 200 rfl (AllP.c ‹_› (AllP.c rfl AllP.n)) ?_
  exact EndsP.mk rfl rfl rfl rfl
 ·have e2:(!(zgg h p==0))=true:=by
   rw [show (zgg h p==0)=false by rw [←Bool.not_eq_true,beq_iff_eq];exact e];rfl
  have e3:zer h p=[]:=by
   by_cases e1:ppE h p=0
   ·have hO:OkH h:=by
     rcases z18 h p with g | g
     ·exact g.1
     ·exact absurd e1 (z3J g)
    rw [show zer h p=zcd h p 0 from if_pos e1]
    refine zcc (Nat.le_of_not_lt fun g=>e ?_)
    unfold zgg;rw [if_pos e1,if_pos g]
   ·exact (z7l e1).2
  rw [e3]
  refine VP.of (fn:=Tryz.f44) z7 (zu rfl) (by kernel_rfl) rfl rfl rfl ?_
  refine VSt.go z7 false [] 200 rfl AllP.n ?_
  refine VSt.pc rfl rfl rfl rfl rfl rfl rfl rfl (hs) ?_
  refine VSt.go z7 false [] 200 rfl AllP.n ?_
  refine VSt.cond rfl (fun _=>?_) (fun q=>absurd (q.symm.trans e2) (by decide))
  refine VSt.go z7 false [] 200 rfl AllP.n ?_
  refine ⟨rfl,_,rfl,rfl,?_⟩
  exact AImp.tup ⟨AImp.nil,AImp.refl _,trivial⟩
theorem zg6 {h:Hp} {p:Int} (hz:SzH h):VP (sE r) 45 [.agg ((eHp h).map .p),iv p] (.tup [iv (zm1 h p),iv (ppE h p)]):=by
 have hc:=z3f (r:=r) (p:=p) hz
 rcases z18 h p with ⟨hO,e⟩ | e
 rotate_left
 ·rw [show zm1 h p=0 from if_neg (z3J e)]
  refine VP.of (fn:=Tryz.f45) z7 (zu rfl) (by kernel_rfl) rfl rfl rfl ?_
  refine VSt.go z7 false [] 200 rfl AllP.n ?_
  refine z8 (zb 0 (eHp h) rfl rfl) ?_
  refine VSt.pc rfl rfl rfl rfl rfl rfl rfl rfl (hc) ?_
  refine VSt.go z7 false [] 200 rfl AllP.n ?_
  refine VSt.cond rfl (fun _=>?_) (fun q=>absurd (q.symm.trans e) (by decide))
  refine VSt.go z7 false [] 200 rfl AllP.n ?_
  exact EndsP.mk rfl rfl rfl rfl
 rw [show zm1 h p=Int.ofNat (min (zM h p).length 1000) from if_pos e]
 rw [e] at hc ⊢
 refine VP.of (fn:=Tryz.f45) z7 (zu rfl) (by kernel_rfl) rfl rfl rfl ?_
 refine VSt.go z7 false [] 200 rfl AllP.n ?_
 refine z8 (zb 0 (eHp h) rfl rfl) ?_
 refine VSt.pc rfl rfl rfl rfl rfl rfl rfl rfl (hc) ?_
 refine VSt.go z7 false [] 200 rfl AllP.n ?_
 refine VSt.cond rfl (fun q=>absurd q (by decide)) (fun _=>?_)
 refine VSt.go z7 false [] 200 rfl AllP.n ?_
 refine VSt.pc rfl rfl rfl rfl rfl rfl rfl rfl ((z5E (p:=p) hz hO)) ?_
 refine VSt.go z7 false [] 200 rfl AllP.n ?_
 refine EndsP.mk rfl rfl rfl ?_
 rw [←z4W hO]
 show AV.tup [iv (min (Int.ofNat (z1n h p).length) 1000),iv 0]=_
 rw [show min (Int.ofNat (z1n h p).length) 1000=Int.ofNat (min (z1n h p).length 1000) by simp only [Int.ofNat_eq_natCast];omega]
end Go.Proofs.YtdpipdniklognaaGreat
/- Walks: Nth of both sides, CheckOrder of the program. -/
set_option maxRecDepth 100000
namespace Go.Proofs.YtdpipdniklognaaGreat
variable {r:Rm}
noncomputable def zkZ (h:Hp) (p n:Int):Int:=if ppE h p=0 then (bif wth n 0 999&&decide (n<Int.ofNat (zM h p).length) then 0 else 3) else ppE h p
noncomputable def zew (h:Hp) (p n:Int):List Int:=if ppE h p=0 then (bif wth n 0 999&&decide (n<Int.ofNat (zM h p).length) then zcd h p n.toNat else []) else []
theorem z6B {h:Hp} {p n:Int} (e:¬ ppE h p=0):zkZ h p n=ppE h p∧zew h p n=[]:=⟨if_neg e,if_neg e⟩
theorem z5K {h:Hp} {p n:Int} (e:ppE h p=0) (g:(wth n 0 999&&decide (n<Int.ofNat (zM h p).length))=false):zkZ h p n=3∧zew h p n=[]:=by
 unfold zkZ zew;rw [if_pos e,if_pos e,g];exact ⟨rfl,rfl⟩
theorem z9r {h:Hp} {p n:Int} (e:ppE h p=0) (g:(wth n 0 999&&decide (n<Int.ofNat (zM h p).length))=true):zkZ h p n=0∧zew h p n=zcd h p n.toNat:=by
 unfold zkZ zew;rw [if_pos e,if_pos e,g];exact ⟨rfl,rfl⟩
theorem znj {h:Hp} {p n:Int} (hz:SzH h):VP (sE r) 40 [.agg ((eHp h).map .p),iv p,iv n] (.tup [.p (eL (zew h p n)),iv (zkZ h p n)]):=by
 have hc:=z44 (r:=r) (p:=p) hz
 rcases z18 h p with ⟨hO,e⟩ | e
 rotate_left
 ·rw [(z6B (z3J e)).1,(z6B (z3J e)).2]
  refine VP.of (fn:=Tryz.f40) z7 (zu rfl) (by kernel_rfl) rfl rfl rfl ?_
  refine VSt.go z7 false [] 200 rfl AllP.n ?_
  refine z8 (zb 0 (eHp h) rfl rfl) ?_
  refine VSt.pc rfl rfl rfl rfl rfl rfl rfl rfl (hc) ?_
  refine VSt.go z7 false [] 200 rfl AllP.n ?_
  refine VSt.cond rfl (fun _=>?_) (fun q=>absurd (q.symm.trans e) (by decide))
  refine VSt.go z7 false [] 200 rfl AllP.n ?_
  refine ⟨rfl,_,rfl,rfl,?_⟩
  exact AImp.tup ⟨AImp.nil,AImp.refl _,trivial⟩
 rw [e] at hc
 cases hw:wth n 0 999 with
 | false =>
  have g:(wth n 0 999&&decide (n<Int.ofNat (zM h p).length))=false:=by rw [hw];rfl
  rw [(z5K e g).1,(z5K e g).2]
  refine VP.of (fn:=Tryz.f40) z7 (zu rfl) (by kernel_rfl) rfl rfl rfl ?_
  refine VSt.go z7 false [] 200 rfl AllP.n ?_
  refine z8 (zb 0 (eHp h) rfl rfl) ?_
  refine VSt.pc rfl rfl rfl rfl rfl rfl rfl rfl (hc) ?_
  refine VSt.go z7 false [] 200 rfl AllP.n ?_
  refine VSt.cond rfl (fun q=>absurd q (by decide)) (fun _=>?_)
  refine VSt.go z7 false [] 200 rfl AllP.n ?_
  refine VSt.pc rfl rfl rfl rfl rfl rfl rfl rfl ((zcv n 0 999)) ?_
  refine VSt.go z7 false [] 200 rfl AllP.n ?_
  refine VSt.cond rfl (fun _=>?_) (fun q=>?_)
  ·refine VSt.go z7 false [] 200 rfl AllP.n ?_
   refine ⟨rfl,_,rfl,rfl,?_⟩
   exact AImp.tup ⟨AImp.nil,AImp.refl _,trivial⟩
  ·have q:(!wth n 0 999)=false:=q
   rw [hw] at q;cases q
 | true =>
  have hb:=wth_iff.1 hw
  obtain ⟨m,rfl⟩:∃ m:Nat,n=Int.ofNat m:=⟨n.toNat,by simp only [Int.ofNat_eq_natCast];omega⟩
  have hm:m≤999:=by have:=hb.2;simp only [Int.ofNat_eq_natCast] at this;omega
  have hdd:decide (Int.ofNat m<Int.ofNat (zM h p).length)=decide (m<(zM h p).length):=by
   rw [Bool.eq_iff_iff,decide_eq_true_iff,decide_eq_true_iff]
   simp only [Int.ofNat_eq_natCast];omega
  have hnth:=zjJ (r:=r) (p:=p) (m:=m) hz hO (by omega)
  refine VP.of (fn:=Tryz.f40) z7 (zu rfl) (by kernel_rfl) rfl rfl rfl ?_
  refine VSt.go z7 false [] 200 rfl AllP.n ?_
  refine z8 (zb 0 (eHp h) rfl rfl) ?_
  refine VSt.pc rfl rfl rfl rfl rfl rfl rfl rfl (hc) ?_
  refine VSt.go z7 false [] 200 rfl AllP.n ?_
  refine VSt.cond rfl (fun q=>absurd q (by decide)) (fun _=>?_)
  refine VSt.go z7 false [] 200 rfl AllP.n ?_
  refine VSt.pc rfl rfl rfl rfl rfl rfl rfl rfl ((zcv (Int.ofNat m) 0 999)) ?_
  refine VSt.go z7 false [] 200 rfl AllP.n ?_
  refine VSt.cond rfl (fun q=>?_) (fun _=>?_)
  ·have q:(!wth (Int.ofNat m) 0 999)=true:=q
   rw [hw] at q;cases q
  refine VSt.go z7 false [] 200 rfl AllP.n ?_
  refine VSt.pc rfl rfl rfl rfl rfl rfl rfl rfl (hnth) ?_
  refine VSt.go z7 false [] 200 rfl AllP.n ?_
  refine VSt.cond rfl (fun q=>?_) (fun q=>?_)
  ·have q:(!decide (m<(zM h p).length))=true:=q
   have g:(wth (Int.ofNat m) 0 999&&decide (Int.ofNat m<Int.ofNat (zM h p).length))=false:=by rw [hw,hdd];simpa using q
   rw [(z5K e g).1,(z5K e g).2]
   refine VSt.go z7 false [] 200 rfl AllP.n ?_
   refine ⟨rfl,_,rfl,rfl,?_⟩
   exact AImp.tup ⟨AImp.nil,AImp.refl _,trivial⟩
  ·have q:(!decide (m<(zM h p).length))=false:=q
   have g:(wth (Int.ofNat m) 0 999&&decide (Int.ofNat m<Int.ofNat (zM h p).length))=true:=by rw [hw,hdd];simpa using q
   rw [(z9r e g).1,(z9r e g).2]
   refine VSt.go z7 false [] 200 rfl AllP.n ?_
   exact EndsP.mk rfl rfl rfl rfl
theorem zkJ {h:Hp} {p n:Int} (hz:SzH h):VP (sE r) 46 [.agg ((eHp h).map .p),iv p,iv n] (.tup [.p (eL (zew h p n)),iv (zkZ h p n)]):=by
 have hc:=z3f (r:=r) (p:=p) hz
 rcases z18 h p with ⟨hO,e⟩ | e
 rotate_left
 ·rw [(z6B (z3J e)).1,(z6B (z3J e)).2]
  refine VP.of (fn:=Tryz.f46) z7 (zu rfl) (by kernel_rfl) rfl rfl rfl ?_
  refine VSt.go z7 false [] 200 rfl AllP.n ?_
  refine z8 (zb 0 (eHp h) rfl rfl) ?_
  refine VSt.pc rfl rfl rfl rfl rfl rfl rfl rfl (hc) ?_
  refine VSt.go z7 false [] 200 rfl AllP.n ?_
  refine VSt.cond rfl (fun _=>?_) (fun q=>absurd (q.symm.trans e) (by decide))
  refine VSt.go z7 false [] 200 rfl AllP.n ?_
  refine ⟨rfl,_,rfl,rfl,?_⟩
  exact AImp.tup ⟨AImp.nil,AImp.refl _,trivial⟩
 rw [e] at hc
 have hlen:=z4W hO p
 have hle:=zis hO p
 have hww:wth n 0 (min (Int.ofNat (z1n h p).length) 1000 - 1)=(wth n 0 999&&decide (n<Int.ofNat (zM h p).length)):=by
  rw [Bool.eq_iff_iff,wth_iff,Bool.and_eq_true,wth_iff,decide_eq_true_iff,hlen]
  simp only [Int.ofNat_eq_natCast];omega
 refine VP.of (fn:=Tryz.f46) z7 (zu rfl) (by kernel_rfl) rfl rfl rfl ?_
 refine VSt.go z7 false [] 200 rfl AllP.n ?_
 refine z8 (zb 0 (eHp h) rfl rfl) ?_
 refine VSt.pc rfl rfl rfl rfl rfl rfl rfl rfl (hc) ?_
 refine VSt.go z7 false [] 200 rfl AllP.n ?_
 refine VSt.cond rfl (fun q=>absurd q (by decide)) (fun _=>?_)
 refine VSt.go z7 false [] 200 rfl AllP.n ?_
 refine VSt.pc rfl rfl rfl rfl rfl rfl rfl rfl ((z5E (p:=p) hz hO)) ?_
 have hin:inR (min (Int.ofNat (z1n h p).length) 1000 - 1):=by unfold inR;simp only [Int.ofNat_eq_natCast];omega
 refine VSt.go z7 false [] 200 rfl (AllP.c ‹_› AllP.n) ?_
 refine VSt.pc rfl rfl rfl rfl rfl rfl rfl rfl ((z4r n 0 (min (Int.ofNat (z1n h p).length) 1000 - 1))) ?_
 refine VSt.go z7 false [] 200 rfl AllP.n ?_
 refine VSt.cond rfl (fun q=>?_) (fun q=>?_)
 ·have q:(!wth n 0 (min (Int.ofNat (z1n h p).length) 1000 - 1))=true:=q
  have g:(wth n 0 999&&decide (n<Int.ofNat (zM h p).length))=false:=by rw [←hww];simpa using q
  rw [(z5K e g).1,(z5K e g).2]
  refine VSt.go z7 false [] 200 rfl AllP.n ?_
  refine ⟨rfl,_,rfl,rfl,?_⟩
  exact AImp.tup ⟨AImp.nil,AImp.refl _,trivial⟩
 ·have q:(!wth n 0 (min (Int.ofNat (z1n h p).length) 1000 - 1))=false:=q
  have g:(wth n 0 999&&decide (n<Int.ofNat (zM h p).length))=true:=by rw [←hww];simpa using q
  have g2:=g
  rw [Bool.and_eq_true,wth_iff,decide_eq_true_iff] at g2
  rw [(z9r e g).1,(z9r e g).2,←zgs hO]
  have en:n=Int.ofNat n.toNat:=by simp only [Int.ofNat_eq_natCast];omega
  have hlt:n.toNat<(z1n h p).length:=by rw [hlen];simp only [Int.ofNat_eq_natCast] at g2;omega
  refine VSt.go z7 false [28] 200 rfl AllP.n ?_
  refine z03 27 (nv n.toNat) rfl (z0I en) ?_
  refine VSt.go z7 false [] 200 rfl (AllP.c ‹_› (AllP.c rfl AllP.n)) ?_
  exact EndsP.mk rfl rfl rfl rfl
noncomputable def zm2 (h:Hp) (p:Int) (o:List Int):Int:=if ppE h p=0 then (bif z5a h p o then 0 else 52) else ppE h p
theorem za5 {h:Hp} {p:Int} {b:Bool} {o:List Int} (hz:SzH h) (ho:o.length<9223372036854775808):VP (sE r) 33 [.agg ((eHp h).map .p),iv p,.p (z3E b o)] (iv (zm2 h p o)):=by
 have hc:=z44 (r:=r) (p:=p) hz
 rcases z18 h p with ⟨hO,e⟩ | e
 rotate_left
 ·rw [show zm2 h p o=ppE h p from if_neg (z3J e)]
  refine VP.of (fn:=Tryz.f33) z7 (zu rfl) (by kernel_rfl) rfl rfl rfl ?_
  refine VSt.go z7 false [] 200 rfl AllP.n ?_
  refine z8 (zb 0 (eHp h) rfl rfl) ?_
  refine VSt.pc rfl rfl rfl rfl rfl rfl rfl rfl (hc) ?_
  refine VSt.go z7 false [] 200 rfl AllP.n ?_
  refine VSt.cond rfl (fun _=>?_) (fun q=>absurd (q.symm.trans e) (by decide))
  refine VSt.go z7 false [] 200 rfl AllP.n ?_
  exact EndsP.mk rfl rfl rfl rfl
 rw [show zm2 h p o=(bif z5a h p o then 0 else 52) from if_pos e]
 rw [e] at hc
 refine VP.of (fn:=Tryz.f33) z7 (zu rfl) (by kernel_rfl) rfl rfl rfl ?_
 refine VSt.go z7 false [] 200 rfl AllP.n ?_
 refine z8 (zb 0 (eHp h) rfl rfl) ?_
 refine VSt.pc rfl rfl rfl rfl rfl rfl rfl rfl (hc) ?_
 refine VSt.go z7 false [] 200 rfl AllP.n ?_
 refine VSt.cond rfl (fun q=>absurd q (by decide)) (fun _=>?_)
 refine VSt.go z7 false [] 200 rfl AllP.n ?_
 refine VSt.pc rfl rfl rfl rfl rfl rfl rfl rfl ((z8z (p:=p) (b:=b) (o:=o) hz hO ho)) ?_
 refine VSt.go z7 false [] 200 rfl AllP.n ?_
 refine VSt.cond rfl (fun q=>?_) (fun q=>?_)
 ·have q:(!z5a h p o)=true:=q
  rw [show z5a h p o=false by simpa using q]
  refine VSt.go z7 false [] 200 rfl AllP.n ?_
  exact EndsP.mk rfl rfl rfl rfl
 ·have q:(!z5a h p o)=false:=q
  rw [show z5a h p o=true by simpa using q]
  refine VSt.go z7 false [] 200 rfl AllP.n ?_
  exact EndsP.mk rfl rfl rfl rfl
end Go.Proofs.YtdpipdniklognaaGreat
/- Walks of the reference: isOrder. -/
set_option maxRecDepth 100000
namespace Go.Proofs.YtdpipdniklognaaGreat
variable {r:Rm}
def ixI (h:Hp) (id:Int):Int:=z6f h.st fun s=>s.id==id
def z83 (h:Hp) (o:List Int) (k:Nat):List Int:=(o.take k).map (ixI h)
def zT (l:List Int) (k:Nat):Int:=l.getD k 0
def g1 (h:Hp) (p:Int) (o:List Int) (i:Nat):Bool:=(z6Q h.st p).contains (zT o i) && !(z83 h o i).contains (ixI h (zT o i))
def byN (h:Hp) (o:List Int):List Nat:=o.map fun id=>(ixI h id).toNat
def zk3 (h:Hp) (by_:List Nat):Nat→Bool
 | 0=>zeb h (za h.st (zA by_ 0))
 | m+1=>!z5D h (zA by_ m) (zA by_ (m+1)) (za h.st (zA by_ m)) (za h.st (zA by_ (m+1)))
def zjk (h:Hp) (by_:List Nat) (k:Nat):Bool:=Nat.beq (k+1) by_.length&&za6 h (za h.st (zA by_ k))
def g2 (h:Hp) (by_:List Nat) (k:Nat):Bool:=!(zk3 h by_ k||zjk h by_ k)
def zg3 (h:Hp) (p:Int) (o:List Int):Bool:=Nat.beq o.length (z6Q h.st p).length&&(zf5 (g1 h p o) o.length&&(zf5 (g2 h (byN h o)) (byN h o).length&&(zO (zF h (byN h o)) 12==0)))
theorem zhF {h:Hp} {o:List Int} {k:Nat} (hk:k<o.length):z83 h o (k+1)=z83 h o k++[ixI h (zT o k)]:=by
 unfold z83 zT
 rw [List.take_add_one,List.getElem?_eq_getElem hk,List.map_append,z0a hk];rfl
theorem zmM {h:Hp} {p id:Int} (hm:(z6Q h.st p).contains id=true):(ixI h id).toNat<h.st.length∧ixI h id=Int.ofNat (ixI h id).toNat∧(za h.st (ixI h id).toNat).id=id∧(za h.st (ixI h id).toNat).paper=p∨∃ q,q<h.st.length∧(za h.st q).id=id∧(za h.st q).paper=p∧(ixI h id).toNat<h.st.length∧ixI h id=Int.ofNat (ixI h id).toNat∧(za h.st (ixI h id).toNat).id=id:=by
 rw [List.contains_iff_mem] at hm
 unfold z6Q at hm
 obtain ⟨s,hs,e⟩:=List.mem_map.1 hm
 obtain ⟨h1,h2⟩:=List.mem_filter.1 hs
 obtain ⟨q,hq,e2⟩:=z0u (d:=default) h1
 have e3:za h.st q=s:=e2
 rcases z5R h.st (fun s=>s.id==id) with h3 | ⟨k,h3⟩
 ·exfalso
  have h4:=z9G h3
  rw [←h4] at h1
  have:=(List.mem_filter.1 h1).2
  rw [e,beq_self_eq_true] at this;cases this
 ·obtain ⟨h4,h5,_⟩:=z5Q h3
  have h6:ixI h id=Int.ofNat k:=h3
  refine .inr ⟨q,hq,by rw [e3];exact e,by rw [e3];exact eq_of_beq h2,?_,?_,?_⟩
  ·rw [h6];exact h4
  ·rw [h6];rfl
  ·rw [h6];exact eq_of_beq h5
theorem zgE {h:Hp} (n:OkH h) {p id:Int} (hm:(z6Q h.st p).contains id=true):(ixI h id).toNat<h.st.length∧ixI h id=Int.ofNat (ixI h id).toNat∧(za h.st (ixI h id).toNat).id=id∧(za h.st (ixI h id).toNat).paper=p:=by
 rcases zmM hm with h1 | ⟨q,h1,h2,h3,h4,h5,h6⟩
 ·exact h1
 ·refine ⟨h4,h5,h6,?_⟩
  have:=n.rise.inj h4 h1 (by rw [h6,h2])
  rw [this];exact h3
set_option maxHeartbeats 8000000 in
theorem z7g {h:Hp} {p:Int} {b:Bool} {o:List Int} (hz:SzH h) (hO:OkH h) (ho:o.length<9223372036854775808):VP (sE r) 106 [.agg ((eHp h).map .p),iv p,.p (z3E b o)] (bv (zg3 h p o)):=by
 have hst:=hO.st
 have hsw:=hO.sw
 have hbl:=zcK h.st p
 have hcl:cnt h.st p≤24:=by
  have:cnt h.st p≤h.st.length:=List.length_filter_le _ _
  omega
 refine VP.of (fn:=Tryz.f106) z7 (zu rfl) (by kernel_rfl) rfl rfl rfl ?_
 refine VSt.go z7 false [] 200 rfl AllP.n ?_
 refine z8 (zb 0 (eHp h) rfl rfl) ?_
 refine VSt.pc rfl rfl rfl rfl rfl rfl rfl rfl ((z8o (h:=h) (p:=p) (by omega))) ?_
 refine VSt.go z7 false [] 200 rfl AllP.n ?_
 refine VSt.cond rfl (fun q=>?_) (fun q=>?_)
 ·have q:(!(Int.ofNat o.length==Int.ofNat (z6Q h.st p).length))=true:=q
  have e:zg3 h p o=false:=by
   unfold zg3
   rw [z2p fun g=>by rw [g,beq_self_eq_true] at q;cases q];rfl
  rw [e]
  refine VSt.go z7 false [] 200 rfl AllP.n ?_
  exact EndsP.mk rfl rfl rfl rfl
 have q:(!(Int.ofNat o.length==Int.ofNat (z6Q h.st p).length))=false:=q
 have hl:o.length=(z6Q h.st p).length:=by
  have:=eq_of_beq (show (Int.ofNat o.length==Int.ofNat (z6Q h.st p).length)=true by simpa using q)
  simp only [Int.ofNat_eq_natCast] at this
  omega
 have hq0:Nat.beq o.length (z6Q h.st p).length=true:=by rw [hl];exact Nat.beq_refl _
 have ho24:o.length≤24:=by omega
 refine VSt.go z7 false [] 200 rfl AllP.n ?_
 refine z01 (z1y 0 1 (fL []) 3 rfl) ?_
 refine z09 (ti:=9) o.length [2,3,7] (fun k=>[(8,.acc true 0 1 (z83 h o k).length)]) (fun k=>[(0,.acc (z83 h o k).length 1 (fL (z83 h o k)) 3)]) (fun k=>∀ i,i<k→g1 h p o i=true) rfl rfl (z0K rfl z0o z0l) (LImp.refl _) none0 (fun k hk hp=>?_)
 have hal:(z83 h o k).length=k:=by unfold z83;rw [List.length_map,List.length_take];omega
 refine VSt.go z7 false [] 200 rfl AllP.n ?_
 refine VSt.cond rfl (fun g=>?_) (fun g=>?_)
 ·have g:=nlt g
  have e:=zhF (h:=h) g
  have hN:=congrArg List.length e
  rw [List.length_append,List.length_singleton] at hN
  refine VSt.go z7 false [] 200 rfl (AllP.c ‹_› (AllP.c rfl AllP.n)) ?_
  refine z0b rfl rfl rfl rfl rfl rfl rfl rfl ((z8p (h:=h) (id:=zT o k) (by omega))) ?_
  refine VSt.go z7 false [] 200 rfl (AllP.c ‹_› (AllP.c rfl AllP.n)) ?_
  refine VSt.pc rfl rfl rfl rfl rfl rfl rfl rfl ((zg5 (b:=(z6Q h.st p).isEmpty) (l:=z6Q h.st p) (n:=zT o k) (by omega))) ?_
  refine VSt.go z7 false [] 200 rfl AllP.n ?_
  refine zg 39 rfl (fun q1=>?_) (fun q1=>?_)
  ·have q1:(!(z6Q h.st p).contains (zT o k))=true:=q1
   have e1:zg3 h p o=false:=by
    unfold zg3
    rw [z4n (p:=g1 h p o) g (by unfold g1;rw [show (z6Q h.st p).contains (zT o k)=false by simpa using q1];rfl),Bool.false_and,Bool.and_false]
   rw [e1]
   refine VSt.go z7 false [] 200 rfl AllP.n ?_
   exact EndsP.mk rfl rfl rfl rfl
  have q1:(!(z6Q h.st p).contains (zT o k))=false:=q1
  have q1':(z6Q h.st p).contains (zT o k)=true:=by simpa using q1
  refine VSt.go z7 false [] 200 rfl AllP.n ?_
  refine z5r (F0:=[(40,.p (.lst 3 (Nat.beq (z83 h o k).length 0) (z83 h o k).length (fL (z83 h o k)))),(41,iv (ixI h (zT o k)))]) (zjq (i:=0) rfl (fun q hq=>by
    rcases List.mem_cons.1 hq with rfl | hq
    ·exact ⟨_,rfl,.inr ⟨rfl,rfl⟩⟩
    rcases List.mem_cons.1 hq with rfl | hq
    ·exact ⟨_,rfl,.inl ⟨rfl,rfl⟩⟩
    cases hq)) rfl rfl rfl rfl rfl rfl rfl (zg5 (b:=Nat.beq (z83 h o k).length 0) (l:=z83 h o k) (n:=ixI h (zT o k)) (by omega)) rfl ?_
  refine VSt.go z7 false [] 200 rfl AllP.n ?_
  refine VSt.cond rfl (fun q2=>?_) (fun q2=>?_)
  ·have q2:(z83 h o k).contains (ixI h (zT o k))=true:=q2
   have e1:zg3 h p o=false:=by
    unfold zg3
    rw [z4n (p:=g1 h p o) g (by unfold g1;rw [q2,Bool.not_true,Bool.and_false]),Bool.false_and,Bool.and_false]
   rw [e1]
   refine VSt.go z7 false [] 200 rfl AllP.n ?_
   exact EndsP.mk rfl rfl rfl rfl
  have q2:(z83 h o k).contains (ixI h (zT o k))=false:=q2
  refine VSt.go z7 false [] 200 rfl (AllP.c (by omega) (AllP.c (by omega) (AllP.c (fun q hq=>match q,hq with | 0,_=>rfl) (AllP.c rfl (AllP.c rfl (AllP.c rfl (AllP.c (by unfold inR;(try simp only [Int.ofNat_eq_natCast]);omega) AllP.n))))))) ?_
  refine ⟨g,?_,z0d hp (by unfold g1;rw [q1',q2];rfl)⟩
  exact z14 (ps:=[(0,1)]) ⟨rfl,rfl,(by repeat (first | exact zo | refine zl rfl rfl rfl ?_ | refine z0z rfl rfl z16 ?_ | refine z0z rfl rfl (AImp.acc hN.symm (fun _=>rfl)) ?_)),_,rfl,⟨rfl,BImp.acc hN.symm (fun q hq=>by rw [e];exact z3V _ _ q hq),trivial⟩⟩
 have g:k=o.length:=by have:=nge g;omega
 subst g
 have hbyl:(byN h o).length=o.length:=List.length_map _
 have hall:zf5 (g1 h p o) o.length=true:=allB_iff.2 hp
 have hfact:∀ id∈o,(ixI h id).toNat<h.st.length∧ixI h id=Int.ofNat (ixI h id).toNat:=fun id hid=>by
  obtain ⟨i,hi,e⟩:=z0u (d:=0) hid
  have h1:=hp i hi
  unfold g1 at h1
  rw [Bool.and_eq_true] at h1
  have h2:=zgE hO h1.1
  rw [show zT o i=id from e] at h2
  exact ⟨h2.1,h2.2.1⟩
 have hats:z83 h o o.length=(byN h o).map Int.ofNat:=by
  unfold z83 byN
  rw [List.take_length,List.map_map]
  exact List.map_congr_left fun id hid=>(hfact id hid).2
 have hin:∀ k,k<(byN h o).length→zA (byN h o) k<h.st.length:=z3l (P:=fun x=>x<h.st.length).2 fun x hx=>by
  obtain ⟨id,hid,e⟩:=List.mem_map.1 hx
  rw [←e];exact (hfact id hid).1
 have erI:zg3 h p o=(zf5 (g2 h (byN h o)) (byN h o).length&&(zO (zF h (byN h o)) 12==0)):=by unfold zg3;rw [hq0,hall];rfl
 rw [erI]
 have hbit:∀ i,i<h.st.length→BitS (za h.st i):=fun i hi=>(hO.ok i hi).bit
 rw [hats]
 generalize byN h o=bb at *
 have hbm:(bb.map Int.ofNat).length=bb.length:=List.length_map _
 refine VSt.go z7 false [] 200 rfl AllP.n ?_
 refine z01 (Vw.kp [3,8,11] [(0,0)] rfl) ?_
 refine z01 (z0t 0 rfl rfl (by (repeat (first | exact AllP.n | refine AllP.c (by first | assumption | rfl | omega | exact Nat.le_refl _ | (show 0<_;omega) | (show 1<_;omega) | (show 2<_;omega) | (show 3<_;omega) | (intro _ _;rfl) | (intro q hq;match q,hq with | 0,_=>rfl) | (unfold inR;(try simp only [Int.ofNat_eq_natCast]);omega)) ?_)))) ?_
 refine VSt.putC 8 (.p (z1v (bb.map Int.ofNat).isEmpty bb)) rfl (z00 (z8S rfl)) ?_
 refine z09 (ti:=11) bb.length [3,8] (fun _=>[]) (fun _=>[]) (fun k=>∀ i,i<k→g2 h bb i=true) rfl rfl z0l trivial none0 (fun k hk hp2=>?_)
 refine VSt.go z7 false [] 200 rfl AllP.n ?_
 refine VSt.cond rfl (fun g3=>?_) (fun g3=>?_)
 rotate_left
 ·have g3:k=bb.length:=by have:=nge g3;omega
  subst g3
  rw [show zf5 (g2 h bb) bb.length=true from allB_iff.2 hp2]
  refine VSt.go z7 false [] 200 rfl AllP.n ?_
  refine VSt.pc rfl rfl rfl rfl rfl rfl rfl rfl ((z5F (b:=(bb.map Int.ofNat).isEmpty) (l:=bb) hbit (by omega) hin)) ?_
  refine VSt.go z7 false [] 200 rfl AllP.n ?_
  refine EndsP.mk rfl rfl rfl ?_
  show bv _=bv _
  rw [z48];rfl
 have g3:k<bb.length:=by have:=nlt g3;omega
 have hkm:k<(bb.map Int.ofNat).length:=by omega
 have hxk:=hin k g3
 have hno:g2 h bb k=false→zf5 (g2 h bb) bb.length=false:=fun e=>z4n g3 e
 obtain ⟨L,hL⟩:∃ L,bb.length=L+1:=⟨bb.length - 1,by omega⟩
 cases k with
 | zero =>
  refine VSt.go z7 false [] 200 rfl AllP.n ?_
  refine zd 56 rfl (fun q1=>?_) (fun q1=>?_)
  rotate_left
  ·exact absurd q1 (by decide)
  refine VSt.go z7 false [61] 200 rfl (AllP.c ‹_› (AllP.c rfl AllP.n)) ?_
  refine zi 60 (nv (zA bb 0)) rfl (z0I z1a) ?_
  refine z0b rfl rfl rfl rfl rfl rfl rfl rfl ((z72 (h:=h) hxk (by omega))) ?_
  refine VSt.go z7 false [] 200 rfl AllP.n ?_
  refine zd 63 rfl (fun q2=>?_) (fun q2=>?_)
  ·have q2:zeb h (za h.st (zA bb 0))=true:=q2
   rw [hno (by unfold g2;rw [show zk3 h bb 0=true from q2];rfl)]
   refine VSt.go z7 false [] 200 rfl AllP.n ?_
   exact EndsP.mk rfl rfl rfl rfl
  have hA:zk3 h bb 0=false:=q2
  refine VSt.go z7 false [] 200 rfl AllP.n ?_
  refine zd 66 rfl (fun q3=>?_) (fun q3=>?_)
  ·exact absurd q3 (by decide)
  refine VSt.go z7 false [85] 200 rfl AllP.n ?_
  refine zi 84 (nv (L+1)) rfl (z0I (by rw [hbm,hL])) ?_
  refine VSt.go z7 false [86] 200 rfl (AllP.c (by unfold inR;(try simp only [Int.ofNat_eq_natCast]);omega) AllP.n) ?_
  refine zi 85 (nv L) rfl (z0I z2z) ?_
  refine VSt.go z7 false [] 200 rfl AllP.n ?_
  refine zd 87 rfl (fun q4=>?_) (fun q4=>?_)
  ·have q4:(Int.ofNat (0)==Int.ofNat L)=true:=q4
   have q4':Nat.beq (0+1) bb.length=true:=by
    have:=eq_of_beq q4
    simp only [Int.ofNat_eq_natCast] at this
    rw [hL,show 0=L by omega];exact Nat.beq_refl _
   refine VSt.go z7 false [93] 200 rfl (AllP.c ‹_› (AllP.c rfl AllP.n)) ?_
   refine zi 92 (nv (zA bb (0))) rfl (z0I z1a) ?_
   refine z0b rfl rfl rfl rfl rfl rfl rfl rfl ((zbS (h:=h) hxk (by omega))) ?_
   refine VSt.go z7 false [] 200 rfl AllP.n ?_
   refine VSt.cond rfl (fun q5=>?_) (fun q5=>?_)
   ·have q5:za6 h (za h.st (zA bb (0)))=true:=q5
    rw [hno (by unfold g2 zjk;rw [q4',q5,Bool.true_and,Bool.or_true];rfl)]
    refine VSt.go z7 false [] 200 rfl AllP.n ?_
    exact EndsP.mk rfl rfl rfl rfl
   ·have q5:za6 h (za h.st (zA bb (0)))=false:=q5
    refine VSt.go z7 false [] 200 rfl (AllP.c (by unfold inR;(try simp only [Int.ofNat_eq_natCast]);omega) AllP.n) ?_
    exact ⟨g3,by (refine Vw.drop (by repeat (first | exact zo | refine zl rfl rfl rfl ?_ | refine z05 rfl ‹_› (zq _ ‹_›) ?_))),z0d hp2 (by unfold g2 zjk;rw [hA,q5,Bool.and_false];rfl)⟩
  ·have q4:(Int.ofNat (0)==Int.ofNat L)=false:=q4
   have q4':Nat.beq (0+1) bb.length=false:=z2p fun e=>by
    rw [show 0=L by omega,beq_self_eq_true] at q4;cases q4
   refine VSt.go z7 false [] 200 rfl (AllP.c (by unfold inR;(try simp only [Int.ofNat_eq_natCast]);omega) AllP.n) ?_
   exact ⟨g3,by (refine Vw.drop (by repeat (first | exact zo | refine zl rfl rfl rfl ?_ | refine z05 rfl ‹_› (zq _ ‹_›) ?_))),z0d hp2 (by unfold g2 zjk;rw [hA,q4'];rfl)⟩
 | succ m =>
  have hmm:m<(bb.map Int.ofNat).length:=by omega
  have hxm:=hin m (by omega)
  refine VSt.go z7 false [] 200 rfl AllP.n ?_
  refine zd 56 rfl (fun q1=>?_) (fun q1=>?_)
  ·have q1:(Int.ofNat (m+1)==0)=true:=q1
   exact absurd (eq_of_beq q1) (by simp only [Int.ofNat_eq_natCast];omega)
  refine VSt.go z7 false [] 200 rfl AllP.n ?_
  refine zd 66 rfl (fun q3=>?_) (fun q3=>?_)
  rotate_left
  ·exact absurd (q3.symm.trans z9j) (by decide)
  refine VSt.go z7 false [70] 200 rfl AllP.n ?_
  refine zi 69 (nv (m+1)) rfl (AImp.refl _) ?_
  refine VSt.go z7 false [71] 200 rfl (AllP.c (by unfold inR;(try simp only [Int.ofNat_eq_natCast]);omega) AllP.n) ?_
  refine zi 70 (nv m) rfl (z0I z2z) ?_
  refine VSt.go z7 false [77] 200 rfl (AllP.c ‹_› (AllP.c rfl (AllP.c ‹_› (AllP.c rfl AllP.n)))) ?_
  refine zi 72 (nv (zA bb m)) rfl (z0I z1a) ?_
  refine zi 76 (nv (zA bb (m+1))) rfl (z0I z1a) ?_
  refine z0b rfl rfl rfl rfl rfl rfl rfl rfl ((zfX (h:=h) hz hxm hxk)) ?_
  refine VSt.go z7 false [] 200 rfl AllP.n ?_
  refine zd 81 rfl (fun q2=>?_) (fun q2=>?_)
  ·have q2:(!z5D h (zA bb m) (zA bb (m+1)) (za h.st (zA bb m)) (za h.st (zA bb (m+1))))=true:=q2
   rw [hno (by unfold g2;rw [show zk3 h bb (m+1)=true from q2];rfl)]
   refine VSt.go z7 false [] 200 rfl AllP.n ?_
   exact EndsP.mk rfl rfl rfl rfl
  have hA:zk3 h bb (m+1)=false:=q2
  refine VSt.go z7 false [85] 200 rfl AllP.n ?_
  refine zi 84 (nv (L+1)) rfl (z0I (by rw [hbm,hL])) ?_
  refine VSt.go z7 false [86] 200 rfl (AllP.c (by unfold inR;(try simp only [Int.ofNat_eq_natCast]);omega) AllP.n) ?_
  refine zi 85 (nv L) rfl (z0I z2z) ?_
  refine VSt.go z7 false [] 200 rfl AllP.n ?_
  refine zd 87 rfl (fun q4=>?_) (fun q4=>?_)
  ·have q4:(Int.ofNat (m+1)==Int.ofNat L)=true:=q4
   have q4':Nat.beq (m+1+1) bb.length=true:=by
    have:=eq_of_beq q4
    simp only [Int.ofNat_eq_natCast] at this
    rw [hL,show m+1=L by omega];exact Nat.beq_refl _
   refine VSt.go z7 false [93] 200 rfl (AllP.c ‹_› (AllP.c rfl AllP.n)) ?_
   refine zi 92 (nv (zA bb (m+1))) rfl (z0I z1a) ?_
   refine z0b rfl rfl rfl rfl rfl rfl rfl rfl ((zbS (h:=h) hxk (by omega))) ?_
   refine VSt.go z7 false [] 200 rfl AllP.n ?_
   refine VSt.cond rfl (fun q5=>?_) (fun q5=>?_)
   ·have q5:za6 h (za h.st (zA bb (m+1)))=true:=q5
    rw [hno (by unfold g2 zjk;rw [q4',q5,Bool.true_and,Bool.or_true];rfl)]
    refine VSt.go z7 false [] 200 rfl AllP.n ?_
    exact EndsP.mk rfl rfl rfl rfl
   ·have q5:za6 h (za h.st (zA bb (m+1)))=false:=q5
    refine VSt.go z7 false [] 200 rfl (AllP.c (by unfold inR;(try simp only [Int.ofNat_eq_natCast]);omega) AllP.n) ?_
    exact ⟨g3,by (refine Vw.drop (by repeat (first | exact zo | refine zl rfl rfl rfl ?_ | refine z05 rfl ‹_› (zq _ ‹_›) ?_))),z0d hp2 (by unfold g2 zjk;rw [hA,q5,Bool.and_false];rfl)⟩
  ·have q4:(Int.ofNat (m+1)==Int.ofNat L)=false:=q4
   have q4':Nat.beq (m+1+1) bb.length=false:=z2p fun e=>by
    rw [show m+1=L by omega,beq_self_eq_true] at q4;cases q4
   refine VSt.go z7 false [] 200 rfl (AllP.c (by unfold inR;(try simp only [Int.ofNat_eq_natCast]);omega) AllP.n) ?_
   exact ⟨g3,by (refine Vw.drop (by repeat (first | exact zo | refine zl rfl rfl rfl ?_ | refine z05 rfl ‹_› (zq _ ‹_›) ?_))),z0d hp2 (by unfold g2 zjk;rw [hA,q4'];rfl)⟩
end Go.Proofs.YtdpipdniklognaaGreat
/- Plain: whether a list is an order is the same on both sides. -/
set_option maxRecDepth 100000
namespace Go.Proofs.YtdpipdniklognaaGreat
theorem z9u {h:Hp}:∀ f {bg lf o:List Nat},lf.length=f→lf.Nodup →
  (o∈z2q h f bg lf ↔ ∃ e,o=bg++e∧e.length=f∧e.Nodup∧(∀ x∈e,x∈lf)∧(∀ k,k<f→z80 h (bg++e.take k) (zA e k)=true)∧za8 h (bg++e)=false)
 | 0,bg,lf,o,_,_=>by
  constructor
  ·intro hm
   have hm:o∈(bif za8 h bg then [] else [bg]):=hm
   cases hb:za8 h bg with
   | true=>rw [hb] at hm;cases hm
   | false =>
    rw [hb] at hm
    exact ⟨[],by rw [List.mem_singleton.1 hm,List.append_nil],rfl,List.nodup_nil,(fun x hx=>by cases hx),fun k hk=>absurd hk (Nat.not_lt_zero k),by rw [List.append_nil];exact hb⟩
  ·rintro ⟨e,h1,h2,_,_,_,h6⟩
   have he:e=[]:=List.length_eq_zero_iff.1 h2
   subst he
   rw [List.append_nil] at h1 h6
   show o∈(bif za8 h bg then [] else [bg])
   rw [h6,h1];exact List.mem_singleton.2 rfl
 | f+1,bg,lf,o,hf,hnd=>by
  have hex:o∈z2q h (f+1) bg lf ↔ ∃ i,i<lf.length∧z80 h bg (zA lf i)=true∧o∈z2q h f (bg++[zA lf i]) (lf.eraseIdx i):=by
   show o∈(List.range lf.length).flatMap _ ↔ _
   rw [List.mem_flatMap]
   constructor
   ·rintro ⟨i,hi,hx⟩
    cases hk:z80 h bg (zA lf i) with
    | false=>rw [hk] at hx;cases hx
    | true=>rw [hk] at hx;exact ⟨i,List.mem_range.1 hi,hk,hx⟩
   ·rintro ⟨i,hi,hk,hx⟩
    exact ⟨i,List.mem_range.2 hi,by rw [hk];exact hx⟩
  rw [hex]
  constructor
  ·rintro ⟨i,hi,hk,hx⟩
   have hfe:=z2E hnd hi
   have hle:(lf.eraseIdx i).length=f:=by rw [List.length_eraseIdx_of_lt hi];omega
   have hnd2:(lf.eraseIdx i).Nodup:=by rw [hfe];exact hnd.sublist List.filter_sublist
   obtain ⟨e,h1,h2,h3,h4,h5,h6⟩:=(z9u f hle hnd2).1 hx
   refine ⟨zA lf i::e,by rw [h1,List.append_assoc];rfl,by rw [List.length_cons,h2],List.nodup_cons.2 ⟨fun hm=>?_,h3⟩,fun x hx=>?_,fun k hkk=>?_,by rw [List.append_assoc] at h6;exact h6⟩
   ·have h7:=h4 _ hm
    rw [hfe] at h7
    have:=(List.mem_filter.1 h7).2
    rw [beq_self_eq_true] at this;cases this
   ·rcases List.mem_cons.1 hx with rfl | hx
    ·exact z0e hi
    ·exact List.mem_of_mem_eraseIdx (h4 x hx)
   ·cases k with
    | zero=>show z80 h (bg++[]) (zA lf i)=true;rw [List.append_nil];exact hk
    | succ k =>
     have:=h5 k (by omega)
     rw [List.append_assoc] at this
     exact this
  ·rintro ⟨e,h1,h2,h3,h4,h5,h6⟩
   cases e with
   | nil=>cases h2
   | cons x e =>
    obtain ⟨h7,h8⟩:=List.nodup_cons.1 h3
    obtain ⟨i,hi,ei⟩:=z0u (d:=0) (h4 x (List.mem_cons_self ..))
    have ei:zA lf i=x:=ei
    have hfe:=z2E hnd hi
    have hle:(lf.eraseIdx i).length=f:=by rw [List.length_eraseIdx_of_lt hi];omega
    have hnd2:(lf.eraseIdx i).Nodup:=by rw [hfe];exact hnd.sublist List.filter_sublist
    refine ⟨i,hi,?_,(z9u f hle hnd2).2 ⟨e,?_,Nat.succ.inj h2,h8,fun y hy=>?_,fun k hk=>?_,?_⟩⟩
    ·have:=h5 0 (Nat.succ_pos _)
     rw [ei]
     have h9:z80 h (bg++[]) x=true:=this
     rw [List.append_nil] at h9;exact h9
    ·rw [ei,h1,List.append_assoc];rfl
    ·rw [hfe,ei]
     refine List.mem_filter.2 ⟨h4 y (List.mem_cons_of_mem _ hy),?_⟩
     have:y≠x:=fun g=>h7 (g ▸ hy)
     simpa using this
    ·have:=h5 (k+1) (by omega)
     rw [ei,List.append_assoc];exact this
    ·rw [ei,List.append_assoc];exact h6
theorem zhp {h:Hp} {o:List Nat} {k:Nat} (hk:k<o.length):z80 h (o.take k) (zA o k) = !zk3 h o k:=by
 cases k with
 | zero=>rfl
 | succ m =>
  have hl:(o.take (m+1)).length=m+1:=by rw [List.length_take];omega
  have hlast:z1A (o.take (m+1))=zA o m:=by
   unfold z1A zA
   rw [hl,show m+1 - 1=m from rfl]
   simp only [List.getD_eq_getElem?_getD]
   rw [List.getElem?_take,if_pos (Nat.lt_succ_self m)]
  rw [znt hl,hlast]
  show _ = !(!_)
  rw [Bool.not_not]
theorem zmQ {h:Hp} {o:List Nat}:zf5 (g2 h o) o.length=true ↔ (∀ k,k<o.length→z80 h (o.take k) (zA o k)=true)∧za8 h o=false:=by
 rw [allB_iff]
 constructor
 ·intro hg
  refine ⟨fun k hk=>?_,?_⟩
  ·have:=hg k hk
   unfold g2 at this
   rw [zhp hk]
   cases hb:zk3 h o k with
   | true=>rw [hb] at this;cases this
   | false=>rfl
  ·unfold za8
   by_cases h0:o.length=0
   ·rw [h0];rfl
   ·rw [z2p h0,cond_false]
    have:=hg (o.length - 1) (by omega)
    unfold g2 zjk at this
    rw [show o.length - 1+1=o.length by omega,Nat.beq_refl,Bool.true_and] at this
    show za6 h (za h.st (zA o (o.length - 1)))=false
    cases hb:za6 h (za h.st (zA o (o.length - 1))) with
    | true=>rw [hb,Bool.or_true] at this;cases this
    | false=>rfl
 ·rintro ⟨h1,h2⟩ k hk
  have h3:=h1 k hk
  rw [zhp hk] at h3
  have h4:zk3 h o k=false:=by simpa using h3
  unfold g2 zjk
  rw [h4]
  by_cases c:k+1=o.length
  ·unfold za8 at h2
   rw [z2p (show o.length≠0 by omega),cond_false] at h2
   have h5:za6 h (za h.st (zA o k))=false:=by
    have:z1A o=zA o k:=by unfold z1A;rw [←c];rfl
    rw [this] at h2;exact h2
   rw [h5,Bool.and_false];rfl
  ·rw [z2p c];rfl
theorem z9A {l:List Sht} {p:Int} {x:Nat}:∀ k,x∈z6F l p k ↔ x<k∧(za l x).paper=p
 | 0=>⟨(fun h=>by cases h),fun h=>absurd h.1 (Nat.not_lt_zero x)⟩
 | k+1=>by
  have ih:=z9A (l:=l) (p:=p) (x:=x) k
  show x∈(bif (za l k).paper==p then z6F l p k++[k] else z6F l p k) ↔ _
  cases hb:(za l k).paper==p with
  | true =>
   rw [cond_true,List.mem_append,ih,List.mem_singleton]
   constructor
   ·rintro (⟨h1,h2⟩ | rfl)
    ·exact ⟨by omega,h2⟩
    ·exact ⟨Nat.lt_succ_self _,eq_of_beq hb⟩
   ·rintro ⟨h1,h2⟩
    by_cases c:x=k
    ·exact .inr c
    ·exact .inl ⟨by omega,h2⟩
  | false =>
   rw [cond_false,ih]
   constructor
   ·rintro ⟨h1,h2⟩;exact ⟨by omega,h2⟩
   ·rintro ⟨h1,h2⟩
    refine ⟨?_,h2⟩
    by_cases c:x=k
    ·rw [c] at h2;rw [h2,beq_self_eq_true] at hb;cases hb
    ·omega
theorem zgF {h:Hp} (n:OkH h) {x:Nat} (hx:x<h.st.length):ixI h (za h.st x).id=Int.ofNat x :=
 z4e (p:=fun s:Sht=>s.id==(za h.st x).id) hx (beq_self_eq_true _) fun i hi=>by
  rw [←Bool.not_eq_true,beq_iff_eq]
  intro e
  have:=n.rise.inj (by omega) hx e
  omega
theorem runs_iff {h:Hp} {p:Int} {o:List Nat}:o∈zG h p ↔ o.length=(z4M h.st p).length∧o.Nodup∧(∀ x∈o,x∈z4M h.st p)∧zf5 (g2 h o) o.length=true:=by
 have hnd:(z4M h.st p).Nodup:=(z7q (l:=h.st) (p:=p) h.st.length).imp fun h=>Nat.ne_of_lt h
 unfold zG
 rw [z9u _ rfl hnd,zmQ]
 constructor
 ·rintro ⟨e,h1,h2,h3,h4,h5,h6⟩
  rw [List.nil_append] at h1 h6
  subst h1
  exact ⟨h2,h3,h4,fun k hk=>h5 k (by omega),h6⟩
 ·rintro ⟨h2,h3,h4,h5,h6⟩
  exact ⟨o,rfl,h2,h3,h4,fun k hk=>h5 k (by omega),h6⟩
theorem zjM {h:Hp} (n:OkH h) (p:Int) (o:List Int):zg3 h p o=z5a h p o:=by
 have hbl:(z6Q h.st p).length=(z4M h.st p).length:=by
  rw [zcK,←zjd,←z3n,List.length_map]
 have hbm:z6Q h.st p=z2J h (z4M h.st p):=by
  show (h.st.filter fun s=>s.paper==p).map (·.id)=((z4M h.st p).map fun i=>za h.st i).map (·.id)
  rw [z3n];rfl
 have hiso:z5a h p o=true ↔ ∃ x,x∈zG h p∧(zO (zF h x) 12==0)=true∧z2J h x=o:=by
  have h1:z5a h p o=true ↔ o∈z1n h p:=by
   rw [z9d n]
   unfold z5a
   rw [List.any_eq_true,List.mem_map]
   constructor
   ·rintro ⟨x,hx,e⟩;exact ⟨x,hx,eq_of_beq e⟩
   ·rintro ⟨x,hx,e⟩;exact ⟨x,hx,by rw [e,beq_self_eq_true]⟩
  rw [h1]
  unfold z1n
  rw [z9n _ (Nat.le_refl _),List.take_length,List.mem_map]
  constructor
  ·rintro ⟨x,hx,e⟩;exact ⟨x,(List.mem_filter.1 hx).1,(List.mem_filter.1 hx).2,e⟩
  ·rintro ⟨x,hx,hb,e⟩;exact ⟨x,List.mem_filter.2 ⟨hx,hb⟩,e⟩
 rw [Bool.eq_iff_iff,hiso]
 unfold zg3
 rw [Bool.and_eq_true,Bool.and_eq_true,Bool.and_eq_true]
 constructor
 ·rintro ⟨h1,h2,h3,h4⟩
  have h1:o.length=(z6Q h.st p).length:=Nat.eq_of_beq_eq_true h1
  have h2:=allB_iff.1 h2
  have hf:∀ id∈o,(ixI h id).toNat<h.st.length∧ixI h id=Int.ofNat (ixI h id).toNat∧(za h.st (ixI h id).toNat).id=id∧(za h.st (ixI h id).toNat).paper=p:=fun id hid=>by
   obtain ⟨i,hi,e⟩:=z0u (d:=0) hid
   have h5:=h2 i hi
   unfold g1 at h5
   rw [Bool.and_eq_true] at h5
   have h6:=zgE n h5.1
   rw [show zT o i=id from e] at h6
   exact h6
  refine ⟨byN h o,runs_iff.2 ⟨by unfold byN;rw [List.length_map];omega,?_,fun x hx=>?_,h3⟩,h4,?_⟩
  ·unfold byN
   rw [List.nodup_iff_pairwise_ne,List.pairwise_map,List.pairwise_iff_getElem]
   intro i j hi hj hij e
   have h5:=h2 j hj
   unfold g1 at h5
   rw [Bool.and_eq_true] at h5
   have h6:(z83 h o j).contains (ixI h (zT o j))=false:=by simpa using h5.2
   have h7:(z83 h o j).contains (ixI h (zT o j))=true:=by
    rw [List.contains_iff_mem]
    unfold z83
    refine List.mem_map.2 ⟨o[i],?_,?_⟩
    ·rw [List.mem_take_iff_getElem]
     exact ⟨i,by omega,rfl⟩
    ·have e1:zT o j=o[j]:=z0a hj
     rw [e1,(hf o[i] (List.getElem_mem hi)).2.1,(hf o[j] (List.getElem_mem hj)).2.1,e]
   rw [h6] at h7;cases h7
  ·obtain ⟨id,hid,e⟩:=List.mem_map.1 hx
   rw [←e]
   exact (z9A _).2 ⟨(hf id hid).1,(hf id hid).2.2.2⟩
  ·unfold z2J zF byN
   rw [List.map_map,List.map_map]
   conv=>rhs;rw [←List.map_id o]
   exact List.map_congr_left fun id hid=>(hf id hid).2.2.1
 ·rintro ⟨x,hx,hb,rfl⟩
  obtain ⟨h1,h2,h3,h4⟩:=runs_iff.1 hx
  have hlt:∀ y∈x,y<h.st.length:=fun y hy=>((z9A _).1 (h3 y hy)).1
  have hrl:(z2J h x).length=x.length:=by unfold z2J zF;rw [List.length_map,List.length_map]
  have hby:byN h (z2J h x)=x:=by
   unfold byN z2J zF
   rw [List.map_map,List.map_map]
   conv=>rhs;rw [←List.map_id x]
   refine List.map_congr_left fun y hy=>?_
   show (ixI h (za h.st y).id).toNat=y
   rw [zgF n (hlt y hy)];rfl
  have hat:∀ k,k<x.length→zT (z2J h x) k=(za h.st (zA x k)).id:=fun k hk=>by
   unfold zT z2J zF
   rw [z0a (show k<((x.map fun i=>za h.st i).map (·.id)).length by rw [List.length_map,List.length_map];exact hk),List.getElem_map,List.getElem_map]
   unfold zA
   rw [z0a hk]
  refine ⟨by rw [hrl,h1,hbl];exact Nat.beq_refl _,allB_iff.2 fun k hk=>?_,?_,?_⟩
  ·rw [hrl] at hk
   unfold g1
   rw [Bool.and_eq_true]
   have hxk:zA x k∈x:=z0e hk
   refine ⟨?_,?_⟩
   ·rw [List.contains_iff_mem,hat k hk,hbm]
    exact List.mem_map.2 ⟨_,List.mem_map.2 ⟨_,h3 _ hxk,rfl⟩,rfl⟩
   ·have:(z83 h (z2J h x) k).contains (ixI h (zT (z2J h x) k))=false:=by
     rw [←Bool.not_eq_true,List.contains_iff_mem]
     intro hm
     unfold z83 at hm
     obtain ⟨id,hid,e⟩:=List.mem_map.1 hm
     obtain ⟨i,hi,e2⟩:=List.mem_take_iff_getElem.1 hid
     have hi1:i<k:=by omega
     have hi2:i<x.length:=by omega
     have e3:id=zT (z2J h x) i:=by rw [←e2];exact (z0a (by omega)).symm
     rw [e3,hat i hi2,hat k hk,zgF n (hlt (zA x i) (z0e hi2)),zgF n (hlt (zA x k) hxk)] at e
     have:=zdn h2 hi2 hk (Int.ofNat_inj.1 e)
     omega
    rw [this];rfl
  ·rw [hby];exact h4
  ·rw [hby];exact hb
end Go.Proofs.YtdpipdniklognaaGreat
/- Walks: Hole of both sides, CheckOrder of the reference. -/
set_option maxRecDepth 100000
namespace Go.Proofs.YtdpipdniklognaaGreat
variable {r:Rm}
theorem z88 {h:Hp} {p:Int} {b:Bool} {o:List Int} (hz:SzH h) (ho:o.length<9223372036854775808):VP (sE r) 49 [.agg ((eHp h).map .p),iv p,.p (z3E b o)] (iv (zm2 h p o)):=by
 have hc:=z3f (r:=r) (p:=p) hz
 rcases z18 h p with ⟨hO,e⟩ | e
 rotate_left
 ·rw [show zm2 h p o=ppE h p from if_neg (z3J e)]
  refine VP.of (fn:=Tryz.f49) z7 (zu rfl) (by kernel_rfl) rfl rfl rfl ?_
  refine VSt.go z7 false [] 200 rfl AllP.n ?_
  refine z8 (zb 0 (eHp h) rfl rfl) ?_
  refine VSt.pc rfl rfl rfl rfl rfl rfl rfl rfl (hc) ?_
  refine VSt.go z7 false [] 200 rfl AllP.n ?_
  refine VSt.cond rfl (fun _=>?_) (fun q=>absurd (q.symm.trans e) (by decide))
  refine VSt.go z7 false [] 200 rfl AllP.n ?_
  exact EndsP.mk rfl rfl rfl rfl
 rw [show zm2 h p o=(bif z5a h p o then 0 else 52) from if_pos e]
 rw [e] at hc
 have hi:=z7g (r:=r) (p:=p) (b:=b) (o:=o) hz hO ho
 rw [zjM hO] at hi
 refine VP.of (fn:=Tryz.f49) z7 (zu rfl) (by kernel_rfl) rfl rfl rfl ?_
 refine VSt.go z7 false [] 200 rfl AllP.n ?_
 refine z8 (zb 0 (eHp h) rfl rfl) ?_
 refine VSt.pc rfl rfl rfl rfl rfl rfl rfl rfl (hc) ?_
 refine VSt.go z7 false [] 200 rfl AllP.n ?_
 refine VSt.cond rfl (fun q=>absurd q (by decide)) (fun _=>?_)
 refine VSt.go z7 false [] 200 rfl AllP.n ?_
 refine VSt.pc rfl rfl rfl rfl rfl rfl rfl rfl (hi) ?_
 refine VSt.go z7 false [] 200 rfl AllP.n ?_
 refine VSt.cond rfl (fun q=>?_) (fun q=>?_)
 ·have q:(!z5a h p o)=true:=q
  rw [show z5a h p o=false by simpa using q]
  refine VSt.go z7 false [] 200 rfl AllP.n ?_
  exact EndsP.mk rfl rfl rfl rfl
 ·have q:(!z5a h p o)=false:=q
  rw [show z5a h p o=true by simpa using q]
  refine VSt.go z7 false [] 200 rfl AllP.n ?_
  exact EndsP.mk rfl rfl rfl rfl
def zep (h:Hp) (o:List Int):Int:=(za h.st (zS h.st (zT o 0))).paper
def hoK (h:Hp) (o:List Int):Bool:=!Nat.beq o.length 0&&(z4D h.st (zT o 0)&&z5a h (zep h o) o)
theorem z9C {h:Hp} (n:OkH h) {p:Int} {o:List Int} (e:z5a h p o=true):o.length≤7∧∀ id∈o,z4D h.st id=true:=by
 unfold z5a at e
 obtain ⟨row,hr,h1⟩:=List.any_eq_true.1 e
 have h1:=eq_of_beq h1
 have h2:=List.mem_filter.1 hr
 have h3:=z9b h2.1
 have hlen:(z1n h p).length=(z1n h p).length:=rfl
 have hm:o∈z1n h p:=by rw [z9d n];exact List.mem_map.2 ⟨row,hr,h1⟩
 refine ⟨?_,fun id hid=>?_⟩
 ·unfold z1n at hm
  rw [z9n _ (Nat.le_refl _),List.take_length] at hm
  obtain ⟨x,hx,e2⟩:=List.mem_map.1 hm
  have h4:=(zd9 (List.mem_filter.1 hx).1).2
  have hl7:(z4M h.st p).length≤7:=by
   have:=z2G n p
   rw [←z3n,List.length_map] at this;exact this
  rw [←e2]
  unfold z2J zF
  rw [List.length_map,List.length_map];omega
 ·rw [←h1] at hid
  unfold zb7 zP at hid
  rw [List.map_map] at hid
  obtain ⟨i,hi,e2⟩:=List.mem_map.1 hid
  have h4:za (zJ h.st p) i∈zJ h.st p:=z0e (h3 i (List.mem_reverse.1 hi))
  obtain ⟨q,hq,e3⟩:=z0u (d:=default) (List.mem_filter.1 h4).1
  have e4:za h.st q=za (zJ h.st p) i:=e3
  rw [←e2]
  show z4D h.st (za (zJ h.st p) i).id=true
  rw [←e4];exact zcy hq
noncomputable def hoE (h:Hp) (o:List Int) (w:Int):Int:=if ckH h=0 then (bif wth w 0 11 then (bif hoK h o then (if spF (shG h.st o) w.toNat o.length<0 then 3 else 0) else 52) else 1) else 51
noncomputable def hoV (h:Hp) (o:List Int) (w:Int):Int×Int:=if hoE h o w=0 then (spF (shG h.st o) w.toNat o.length,spL (shG h.st o) w.toNat o.length) else (0,0)
theorem zdF {h:Hp} {o:List Int} {w:Int} (e:ckH h=51):hoE h o w=51∧hoV h o w=(0,0):=by
 have:hoE h o w=51:=if_neg (by rw [e];decide)
 exact ⟨this,if_neg (by rw [this];decide)⟩
theorem zdG {h:Hp} {o:List Int} {w:Int} (e:ckH h=0) (g:wth w 0 11=false):hoE h o w=1∧hoV h o w=(0,0):=by
 have:hoE h o w=1:=by unfold hoE;rw [if_pos e,g];rfl
 exact ⟨this,if_neg (by rw [this];decide)⟩
theorem z3B {h:Hp} {o:List Int} {w:Int} (e:ckH h=0) (g:wth w 0 11=true) (k:hoK h o=false):hoE h o w=52∧hoV h o w=(0,0):=by
 have:hoE h o w=52:=by unfold hoE;rw [if_pos e,g,k];rfl
 exact ⟨this,if_neg (by rw [this];decide)⟩
theorem z9I {h:Hp} {o:List Int} {w:Int} (e:ckH h=0) (g:wth w 0 11=true) (k:hoK h o=true) (s:spF (shG h.st o) w.toNat o.length<0):hoE h o w=3∧hoV h o w=(0,0):=by
 have:hoE h o w=3:=by unfold hoE;rw [if_pos e,g,k,cond_true,cond_true,if_pos s]
 exact ⟨this,if_neg (by rw [this];decide)⟩
theorem ziV {h:Hp} {o:List Int} {w:Int} (e:ckH h=0) (g:wth w 0 11=true) (k:hoK h o=true) (s:¬ spF (shG h.st o) w.toNat o.length<0):hoE h o w=0∧hoV h o w=(spF (shG h.st o) w.toNat o.length,spL (shG h.st o) w.toNat o.length):=by
 have:hoE h o w=0:=by unfold hoE;rw [if_pos e,g,k,cond_true,cond_true,if_neg s]
 exact ⟨this,if_pos this⟩
theorem zfQ {l:List Sht} {o:List Int} {k:Nat} (hk:k<o.length):za (shG l o) k=za l (zS l (zT o k)):=by
 have e:zT o k=o[k]:=z0a hk
 rw [e]
 show (o.map fun id=>za l (zS l id)).getD k default=_
 rw [z0a (show k<(o.map fun id=>za l (zS l id)).length by rw [List.length_map];exact hk),List.getElem_map]
set_option maxHeartbeats 8000000 in
theorem zlT {h:Hp} {b:Bool} {o:List Int} {w:Int} (hz:SzH h) (ho:o.length≤1048576):VP (sE r) 47 [.agg ((eHp h).map .p),.p (z3E b o),iv w] (.tup [.agg [iv (hoV h o w).1,iv (hoV h o w).2],iv (hoE h o w)]):=by
 have hc:=z9V (r:=r) hz
 rcases z8P h with ⟨hO,e⟩ | ⟨_,e⟩ <;> rw [e] at hc
 rotate_left
 ·rw [(zdF e).1,(zdF e).2]
  refine VP.of (fn:=Tryz.f47) z7 (zu rfl) (by kernel_rfl) rfl rfl rfl ?_
  refine VSt.go z7 false [] 200 rfl AllP.n ?_
  refine z8 (zb 0 (eHp h) rfl rfl) ?_
  refine VSt.pc rfl rfl rfl rfl rfl rfl rfl rfl (hc) ?_
  refine VSt.go z7 false [] 200 rfl AllP.n ?_
  refine VSt.cond rfl (fun _=>?_) (fun q=>absurd q (by decide))
  refine VSt.go z7 false [] 200 rfl AllP.n ?_
  exact EndsP.mk rfl rfl rfl rfl
 have hst:=hO.st
 cases hw:wth w 0 11 with
 | false =>
  rw [(zdG e hw).1,(zdG e hw).2]
  refine VP.of (fn:=Tryz.f47) z7 (zu rfl) (by kernel_rfl) rfl rfl rfl ?_
  refine VSt.go z7 false [] 200 rfl AllP.n ?_
  refine z8 (zb 0 (eHp h) rfl rfl) ?_
  refine VSt.pc rfl rfl rfl rfl rfl rfl rfl rfl (hc) ?_
  refine VSt.go z7 false [] 200 rfl AllP.n ?_
  refine VSt.cond rfl (fun q=>absurd q (by decide)) (fun _=>?_)
  refine VSt.go z7 false [] 200 rfl AllP.n ?_
  refine VSt.pc rfl rfl rfl rfl rfl rfl rfl rfl ((z7z w)) ?_
  refine VSt.go z7 false [] 200 rfl AllP.n ?_
  refine VSt.cond rfl (fun _=>?_) (fun q=>?_)
  ·refine VSt.go z7 false [] 200 rfl AllP.n ?_
   exact EndsP.mk rfl rfl rfl rfl
  ·have q:(!wth w 0 11)=false:=q
   rw [hw] at q;cases q
 | true =>
  have hwb:=wth_iff.1 hw
  obtain ⟨m,rfl⟩:∃ m:Nat,w=Int.ofNat m:=⟨w.toNat,by simp only [Int.ofNat_eq_natCast];omega⟩
  have hm:m<64:=by have:=hwb.2;simp only [Int.ofNat_eq_natCast] at this;omega
  have hsh:=zfP (r:=r) (b:=b) (ids:=o) hz ho
  cases hall:o.all (z4D h.st) with
  | false =>
   have hk:hoK h o=false:=by
    rw [←Bool.not_eq_true]
    intro g
    unfold hoK at g
    rw [Bool.and_eq_true,Bool.and_eq_true] at g
    have:=(z9C hO g.2.2).2
    rw [List.all_eq_true.2 this] at hall;cases hall
   rw [(z3B e hw hk).1,(z3B e hw hk).2]
   rw [(zic e hall).1,(zic e hall).2] at hsh
   refine VP.of (fn:=Tryz.f47) z7 (zu rfl) (by kernel_rfl) rfl rfl rfl ?_
   refine VSt.go z7 false [] 200 rfl AllP.n ?_
   refine z8 (zb 0 (eHp h) rfl rfl) ?_
   refine VSt.pc rfl rfl rfl rfl rfl rfl rfl rfl (hc) ?_
   refine VSt.go z7 false [] 200 rfl AllP.n ?_
   refine VSt.cond rfl (fun q=>absurd q (by decide)) (fun _=>?_)
   refine VSt.go z7 false [] 200 rfl AllP.n ?_
   refine VSt.pc rfl rfl rfl rfl rfl rfl rfl rfl ((z7z (Int.ofNat m))) ?_
   refine VSt.go z7 false [] 200 rfl AllP.n ?_
   refine VSt.cond rfl (fun q=>?_) (fun _=>?_)
   ·have q:(!wth (Int.ofNat m) 0 11)=true:=q
    rw [hw] at q;cases q
   refine VSt.go z7 false [] 200 rfl AllP.n ?_
   refine VSt.pc rfl rfl rfl rfl rfl rfl rfl rfl (hsh) ?_
   refine VSt.go z7 false [] 200 rfl AllP.n ?_
   refine zd 30 rfl (fun q1=>?_) (fun q1=>?_)
   rotate_left
   ·exact absurd q1 (by decide)
   refine VSt.go z7 false [] 200 rfl AllP.n ?_
   exact EndsP.mk rfl rfl rfl rfl
  | true =>
   rw [(zib e hall).1,(zib e hall).2] at hsh
   refine VP.of (fn:=Tryz.f47) z7 (zu rfl) (by kernel_rfl) rfl rfl rfl ?_
   refine VSt.go z7 false [] 200 rfl AllP.n ?_
   refine z8 (zb 0 (eHp h) rfl rfl) ?_
   refine VSt.pc rfl rfl rfl rfl rfl rfl rfl rfl (hc) ?_
   refine VSt.go z7 false [] 200 rfl AllP.n ?_
   refine VSt.cond rfl (fun q=>absurd q (by decide)) (fun _=>?_)
   refine VSt.go z7 false [] 200 rfl AllP.n ?_
   refine VSt.pc rfl rfl rfl rfl rfl rfl rfl rfl ((z7z (Int.ofNat m))) ?_
   refine VSt.go z7 false [] 200 rfl AllP.n ?_
   refine VSt.cond rfl (fun q=>?_) (fun _=>?_)
   ·have q:(!wth (Int.ofNat m) 0 11)=true:=q
    rw [hw] at q;cases q
   refine VSt.go z7 false [] 200 rfl AllP.n ?_
   refine VSt.pc rfl rfl rfl rfl rfl rfl rfl rfl (hsh) ?_
   refine VSt.go z7 false [] 200 rfl AllP.n ?_
   refine zd 30 rfl (fun q1=>?_) (fun q1=>?_)
   ·exact absurd q1 (by decide)
   have hsl:(shG h.st o).length=o.length:=List.length_map _
   have hfin:hoE h o (Int.ofNat m)=52∧hoV h o (Int.ofNat m)=(0,0)→hoK h o=false→True:=fun _ _=>trivial
   refine VSt.go z7 false [] 200 rfl AllP.n ?_
   refine zd 35 rfl (fun q2=>?_) (fun q2=>?_)
   ·have q2:(Int.ofNat (shG h.st o).length==0)=true:=q2
    have ho0:o.length=0:=by
     have:=eq_of_beq q2
     simp only [Int.ofNat_eq_natCast] at this
     omega
    have hk:hoK h o=false:=by unfold hoK;rw [ho0];rfl
    rw [(z3B e hw hk).1,(z3B e hw hk).2]
    refine VSt.go z7 false [] 200 rfl AllP.n ?_
    exact EndsP.mk rfl rfl rfl rfl
   have q2:(Int.ofNat (shG h.st o).length==0)=false:=q2
   have ho0:o.length≠0:=fun g=>by rw [hsl,g] at q2;exact absurd q2 (by decide)
   have hs0:0<(shG h.st o).length:=by omega
   have hh0:z4D h.st (zT o 0)=true:=List.all_eq_true.1 hall _ (z0e (show 0<o.length by omega))
   have hkk:hoK h o=z5a h (zep h o) o:=by
    unfold hoK
    rw [z2p ho0,hh0];rfl
   refine VSt.go z7 false [41] 200 rfl (AllP.c ‹_› (AllP.c rfl AllP.n)) ?_
   refine zi 40 (iv (zep h o)) rfl (z00 (by show iv (za (shG h.st o) 0).paper=_;rw [zfQ (show 0<o.length by omega)];rfl)) ?_
   refine VSt.go z7 false [] 200 rfl AllP.n ?_
   refine z0b rfl rfl rfl rfl rfl rfl rfl rfl ((z8z (p:=zep h o) (b:=b) (o:=o) hz hO (by omega))) ?_
   refine VSt.go z7 false [] 200 rfl AllP.n ?_
   refine VSt.cond rfl (fun q3=>?_) (fun q3=>?_)
   ·have q3:(!z5a h (zep h o) o)=true:=q3
    have hk:hoK h o=false:=by rw [hkk];simpa using q3
    rw [(z3B e hw hk).1,(z3B e hw hk).2]
    refine VSt.go z7 false [] 200 rfl AllP.n ?_
    exact EndsP.mk rfl rfl rfl rfl
   have q3:(!z5a h (zep h o) o)=false:=q3
   have hiso:z5a h (zep h o) o=true:=by simpa using q3
   have hk:hoK h o=true:=by rw [hkk];exact hiso
   have h7:=(z9C hO hiso).1
   have hbit:∀ k,k<(shG h.st o).length→BitS (za (shG h.st o) k):=fun k hk=>by
    rw [zfQ (show k<o.length by omega)]
    have h1:z4D h.st (zT o k)=true:=List.all_eq_true.1 hall _ (z0e (show k<o.length by omega))
    exact (hO.ok _ (z3O hO.rise h1).1).bit
   refine VSt.go z7 false [] 200 rfl AllP.n ?_
   refine VSt.pc rfl rfl rfl rfl rfl rfl rfl rfl ((zfJ (b:=(shG h.st o).isEmpty) (l:=shG h.st o) (w:=m) (by omega) hm hbit)) ?_
   refine VSt.go z7 false [] 200 rfl AllP.n ?_
   refine VSt.cond rfl (fun q4=>?_) (fun q4=>?_)
   ·have q4:spF (shG h.st o) m (shG h.st o).length<0:=of_decide_eq_true q4
    rw [hsl] at q4
    rw [(z9I e hw hk q4).1,(z9I e hw hk q4).2]
    refine VSt.go z7 false [] 200 rfl AllP.n ?_
    exact EndsP.mk rfl rfl rfl rfl
   ·have q4:¬ spF (shG h.st o) m (shG h.st o).length<0:=of_decide_eq_false q4
    rw [hsl] at q4
    rw [(ziV e hw hk q4).1,(ziV e hw hk q4).2]
    refine VSt.go z7 false [] 200 rfl AllP.n ?_
    refine EndsP.mk rfl rfl rfl ?_
    rw [hsl];rfl
def zkz (l:List Sht) (w:Nat):Nat→Int
 | 0=>0
 | k+1=>bif zU (za l k) w then Int.ofNat k else zkz l w k
theorem zfV {l:List Sht} {w:Nat}:∀ k,¬ spF l w k<0→zkz l w k=spL l w k
 | 0,h=>absurd (show (-1:Int)<0 by decide) h
 | k+1,h=>by
  show (bif zU (za l k) w then Int.ofNat k else zkz l w k)=(bif zU (za l k) w then Int.ofNat k else spL l w k)
  cases hb:zU (za l k) w with
  | true=>rfl
  | false =>
   refine zfV k fun g=>h ?_
   show (bif zU (za l k) w then (bif decide (spF l w k<0) then Int.ofNat k else spF l w k) else spF l w k)<0
   rw [hb];exact g
set_option maxHeartbeats 8000000 in
theorem zil {h:Hp} {b:Bool} {o:List Int} {w:Int} (hz:SzH h) (ho:o.length≤1048576):VP (sE r) 48 [.agg ((eHp h).map .p),.p (z3E b o),iv w] (.tup [.agg [iv (hoV h o w).1,iv (hoV h o w).2],iv (hoE h o w)]):=by
 have hc:=zaw (r:=r) hz
 rcases z8P h with ⟨hO,e⟩ | ⟨_,e⟩ <;> rw [e] at hc
 rotate_left
 ·rw [(zdF e).1,(zdF e).2]
  refine VP.of (fn:=Tryz.f48) z7 (zu rfl) (by kernel_rfl) rfl rfl rfl ?_
  refine VSt.go z7 false [] 200 rfl AllP.n ?_
  refine z8 (zb 0 (eHp h) rfl rfl) ?_
  refine VSt.pc rfl rfl rfl rfl rfl rfl rfl rfl (hc) ?_
  refine VSt.go z7 false [] 200 rfl AllP.n ?_
  refine VSt.cond rfl (fun _=>?_) (fun q=>absurd q (by decide))
  refine VSt.go z7 false [] 200 rfl AllP.n ?_
  exact EndsP.mk rfl rfl rfl rfl
 have hst:=hO.st
 cases hw:wth w 0 11 with
 | false =>
  rw [(zdG e hw).1,(zdG e hw).2]
  refine VP.of (fn:=Tryz.f48) z7 (zu rfl) (by kernel_rfl) rfl rfl rfl ?_
  refine VSt.go z7 false [] 200 rfl AllP.n ?_
  refine z8 (zb 0 (eHp h) rfl rfl) ?_
  refine VSt.pc rfl rfl rfl rfl rfl rfl rfl rfl (hc) ?_
  refine VSt.go z7 false [] 200 rfl AllP.n ?_
  refine VSt.cond rfl (fun q=>absurd q (by decide)) (fun _=>?_)
  refine VSt.go z7 false [] 200 rfl AllP.n ?_
  refine VSt.pc rfl rfl rfl rfl rfl rfl rfl rfl ((z4r w 0 11)) ?_
  refine VSt.go z7 false [] 200 rfl AllP.n ?_
  refine VSt.cond rfl (fun _=>?_) (fun q=>?_)
  ·refine VSt.go z7 false [] 200 rfl AllP.n ?_
   exact EndsP.mk rfl rfl rfl rfl
  ·have q:(!wth w 0 11)=false:=q
   rw [hw] at q;cases q
 | true =>
  have hwb:=wth_iff.1 hw
  obtain ⟨m,rfl⟩:∃ m:Nat,w=Int.ofNat m:=⟨w.toNat,by simp only [Int.ofNat_eq_natCast];omega⟩
  have hm:m<12:=by have:=hwb.2;simp only [Int.ofNat_eq_natCast] at this;omega
  have hb1:1 <<< m<9223372036854775808:=by rw [Nat.one_shiftLeft];exact Nat.lt_of_lt_of_le (Nat.pow_lt_pow_right (by decide) (show m<13 by omega)) (by decide)
  refine VP.of (fn:=Tryz.f48) z7 (zu rfl) (by kernel_rfl) rfl rfl rfl ?_
  refine VSt.go z7 false [] 200 rfl AllP.n ?_
  refine z8 (zb 0 (eHp h) rfl rfl) ?_
  refine VSt.pc rfl rfl rfl rfl rfl rfl rfl rfl (hc) ?_
  refine VSt.go z7 false [] 200 rfl AllP.n ?_
  refine VSt.cond rfl (fun q=>absurd q (by decide)) (fun _=>?_)
  refine VSt.go z7 false [] 200 rfl AllP.n ?_
  refine VSt.pc rfl rfl rfl rfl rfl rfl rfl rfl ((z4r (Int.ofNat m) 0 11)) ?_
  refine VSt.go z7 false [] 200 rfl AllP.n ?_
  refine VSt.cond rfl (fun q=>?_) (fun _=>?_)
  ·have q:(!wth (Int.ofNat m) 0 11)=true:=q
   rw [hw] at q;cases q
  refine VSt.go z7 false [] 200 rfl AllP.n ?_
  refine zd 21 rfl (fun q1=>?_) (fun q1=>?_)
  ·have q1:(Int.ofNat o.length==0)=true:=q1
   have ho0:o.length=0:=by
    have:=eq_of_beq q1
    simp only [Int.ofNat_eq_natCast] at this
    omega
   have hk:hoK h o=false:=by unfold hoK;rw [ho0];rfl
   rw [(z3B e hw hk).1,(z3B e hw hk).2]
   refine VSt.go z7 false [] 200 rfl AllP.n ?_
   exact EndsP.mk rfl rfl rfl rfl
  have q1:(Int.ofNat o.length==0)=false:=q1
  have ho0:o.length≠0:=fun g=>by rw [g] at q1;exact absurd q1 (by decide)
  have ho1:0<o.length:=by omega
  refine VSt.go z7 false [] 200 rfl (AllP.c ‹_› (AllP.c rfl AllP.n)) ?_
  refine z0b rfl rfl rfl rfl rfl rfl rfl rfl ((z8p (h:=h) (id:=zT o 0) (by omega))) ?_
  refine VSt.go z7 false [] 200 rfl AllP.n ?_
  refine zi 29 (bv (!z4D h.st (zT o 0))) rfl (z00 (congrArg bv zcw)) ?_
  cases hh0:z4D h.st (zT o 0) with
  | false =>
   have hk:hoK h o=false:=by unfold hoK;rw [hh0,Bool.false_and,Bool.and_false]
   rw [(z3B e hw hk).1,(z3B e hw hk).2]
   refine zd 29 rfl (fun q2=>?_) (fun q2=>?_)
   rotate_left
   ·exact absurd q2 (by decide)
   refine VSt.go z7 false [] 200 rfl AllP.n ?_
   exact EndsP.mk rfl rfl rfl rfl
  | true =>
   refine zd 29 rfl (fun q2=>?_) (fun q2=>?_)
   ·exact absurd q2 (by decide)
   have hpos:=z9F hO.rise hh0
   have hplt:=(z3O hO.rise hh0).1
   have hkk:hoK h o=z5a h (zep h o) o:=by
    unfold hoK
    rw [z2p ho0,hh0];rfl
   have hi:=z7g (r:=r) (p:=zep h o) (b:=b) (o:=o) hz hO (by omega)
   rw [zjM hO] at hi
   refine VSt.go z7 false [] 200 rfl (AllP.c ‹_› (AllP.c rfl AllP.n)) ?_
   refine z0b rfl rfl rfl rfl rfl rfl rfl rfl ((z8p (h:=h) (id:=zT o 0) (by omega))) ?_
   refine zi 37 (nv (zS h.st (zT o 0))) rfl (z0I hpos) ?_
   refine VSt.go z7 false [41] 200 rfl (AllP.c ‹_› (AllP.c rfl AllP.n)) ?_
   refine zi 40 (iv (zep h o)) rfl (AImp.refl _) ?_
   refine VSt.go z7 false [] 200 rfl AllP.n ?_
   refine z0b rfl rfl rfl rfl rfl rfl rfl rfl (hi) ?_
   refine VSt.go z7 false [] 200 rfl AllP.n ?_
   refine VSt.cond rfl (fun q3=>?_) (fun q3=>?_)
   ·have q3:(!z5a h (zep h o) o)=true:=q3
    have hk:hoK h o=false:=by rw [hkk];simpa using q3
    rw [(z3B e hw hk).1,(z3B e hw hk).2]
    refine VSt.go z7 false [] 200 rfl AllP.n ?_
    exact EndsP.mk rfl rfl rfl rfl
   have q3:(!z5a h (zep h o) o)=false:=q3
   have hiso:z5a h (zep h o) o=true:=by simpa using q3
   have hk:hoK h o=true:=by rw [hkk];exact hiso
   have h7:=(z9C hO hiso).1
   have hall:=(z9C hO hiso).2
   refine VSt.go z7 false [] 200 rfl AllP.n ?_
   refine z09 (ti:=9) o.length [1,2,3,6,8] (fun _=>[]) (fun k=>[(2,.cells [iv (spF (shG h.st o) m k),iv (zkz (shG h.st o) m k)] 32),(1,.cells [iv 0,iv 0] 32)]) (fun _=>True) rfl rfl z0l (LImp.refl _) trivial (fun k hk2 _=>?_)
   refine VSt.go z7 false [] 200 rfl AllP.n ?_
   refine VSt.cond rfl (fun g2=>?_) (fun g2=>?_)
   ·have g2:k<o.length:=nlt g2
    have hid:z4D h.st (zT o k)=true:=hall _ (z0e g2)
    have hps:=z9F hO.rise hid
    have hpl:=(z3O hO.rise hid).1
    have hB:=(hO.ok _ hpl).bit
    have hmm:(za h.st (zS h.st (zT o k))).holes.toNat<9223372036854775808:=by have:=hB.h2;omega
    have hs:=zfQ (l:=h.st) g2
    refine VSt.go z7 false [] 200 rfl (AllP.c ‹_› (AllP.c rfl AllP.n)) ?_
    refine z0b rfl rfl rfl rfl rfl rfl rfl rfl ((z8p (h:=h) (id:=zT o k) (by omega))) ?_
    refine zi 60 (nv (zS h.st (zT o k))) rfl (z0I hps) ?_
    refine VSt.go z7 false [64] 200 rfl (AllP.c ‹_› (AllP.c rfl AllP.n)) ?_
    refine zi 63 (iv (Int.ofNat (za h.st (zS h.st (zT o k))).holes.toNat)) rfl (z00 (congrArg iv hB.h1)) ?_
    refine VSt.go z7 false [] 200 rfl (AllP.c (by omega) (AllP.c ‹_› (AllP.c ‹_› (AllP.c ‹_› AllP.n)))) ?_
    have hbb:=zcN (za h.st (zS h.st (zT o k))).holes.toNat m
    have hhs:zU (za (shG h.st o) k) m=(za h.st (zS h.st (zT o k))).holes.toNat.testBit m:=by rw [hs];rfl
    refine VSt.cond rfl (fun h1=>?_) (fun h1=>?_)
    ·have h1:(!(Int.ofNat ((za h.st (zS h.st (zT o k))).holes.toNat &&& 1 <<< m)==0))=true:=h1
     have hh:zU (za (shG h.st o) k) m=true:=by rw [hhs];rw [hbb] at h1;simpa using h1
     have e2:zkz (shG h.st o) m (k+1)=Int.ofNat k:=by show (bif zU (za (shG h.st o) k) m then _ else _)=_;rw [hh];rfl
     refine VSt.go z7 false [] 200 rfl AllP.n ?_
     refine VSt.cond rfl (fun h2=>?_) (fun h2=>?_)
     ·have h2:decide (spF (shG h.st o) m k<0)=true:=h2
      have e1:spF (shG h.st o) m (k+1)=Int.ofNat k:=by show (bif zU (za (shG h.st o) k) m then (bif decide (spF (shG h.st o) m k<0) then _ else _) else _)=_;rw [hh,h2];rfl
      refine VSt.go z7 false [] 200 rfl (AllP.c (by unfold inR;(try simp only [Int.ofNat_eq_natCast]);omega) AllP.n) ?_
      refine ⟨g2,?_,trivial⟩
      dsimp only
      rw [e1,e2]
      refine z14 (ps:=[(2,2),(1,1)]) ⟨rfl,rfl,(by repeat (first | exact zo | refine zl rfl rfl rfl ?_)),_,rfl,(⟨rfl,BImp.refl _,rfl,BImp.refl _,trivial⟩)⟩
     ·have h2:decide (spF (shG h.st o) m k<0)=false:=h2
      have e1:spF (shG h.st o) m (k+1)=spF (shG h.st o) m k:=by show (bif zU (za (shG h.st o) k) m then (bif decide (spF (shG h.st o) m k<0) then _ else _) else _)=_;rw [hh,h2];rfl
      refine VSt.go z7 false [] 200 rfl (AllP.c (by unfold inR;(try simp only [Int.ofNat_eq_natCast]);omega) AllP.n) ?_
      refine ⟨g2,?_,trivial⟩
      dsimp only
      rw [e1,e2]
      refine z14 (ps:=[(2,2),(1,1)]) ⟨rfl,rfl,(by repeat (first | exact zo | refine zl rfl rfl rfl ?_)),_,rfl,(⟨rfl,BImp.refl _,rfl,BImp.refl _,trivial⟩)⟩
    ·have h1:(!(Int.ofNat ((za h.st (zS h.st (zT o k))).holes.toNat &&& 1 <<< m)==0))=false:=h1
     have hh:zU (za (shG h.st o) k) m=false:=by rw [hhs];rw [hbb] at h1;simpa using h1
     have e1:spF (shG h.st o) m (k+1)=spF (shG h.st o) m k:=by show (bif zU (za (shG h.st o) k) m then _ else _)=_;rw [hh];rfl
     have e2:zkz (shG h.st o) m (k+1)=zkz (shG h.st o) m k:=by show (bif zU (za (shG h.st o) k) m then _ else _)=_;rw [hh];rfl
     refine VSt.go z7 false [] 200 rfl (AllP.c (by unfold inR;(try simp only [Int.ofNat_eq_natCast]);omega) AllP.n) ?_
     refine ⟨g2,?_,trivial⟩
     dsimp only
     rw [e1,e2]
     refine z14 (ps:=[(2,2),(1,1)]) ⟨rfl,rfl,(by repeat (first | exact zo | refine zl rfl rfl rfl ?_)),_,rfl,(⟨rfl,BImp.refl _,rfl,BImp.refl _,trivial⟩)⟩
   have g3:k=o.length:=by have:=nge g2;omega
   subst g3
   refine VSt.go z7 false [] 200 rfl AllP.n ?_
   refine VSt.cond rfl (fun q4=>?_) (fun q4=>?_)
   ·have q4:spF (shG h.st o) m o.length<0:=of_decide_eq_true q4
    rw [(z9I e hw hk q4).1,(z9I e hw hk q4).2]
    refine VSt.go z7 false [] 200 rfl AllP.n ?_
    exact EndsP.mk rfl rfl rfl rfl
   ·have q4:¬ spF (shG h.st o) m o.length<0:=of_decide_eq_false q4
    rw [(ziV e hw hk q4).1,(ziV e hw hk q4).2]
    refine VSt.go z7 false [] 200 rfl AllP.n ?_
    refine EndsP.mk rfl rfl rfl ?_
    rw [zfV _ q4];rfl
end Go.Proofs.YtdpipdniklognaaGreat
/- The law LeafOrders. -/
set_option maxRecDepth 100000
namespace Go.Proofs.YtdpipdniklognaaGreat
variable {r:Rm}
theorem zh2 {h:Hp} {l:List Sht}:∀ f {row0 row:List Nat},row∈z6r h l f row0→row.length=f+row0.length
 | 0,row0,row,hm=>by
  have hm:row∈[row0]:=hm
  rw [List.mem_singleton.1 hm,Nat.zero_add]
 | f+1,row0,row,hm=>by
  obtain ⟨i,_,hx⟩:=List.mem_flatMap.1 hm
  cases hk:okR h l row0 i with
  | false=>rw [hk] at hx;cases hx
  | true =>
   rw [hk] at hx
   have:=zh2 f hx
   rw [List.length_cons] at this
   omega
theorem zdo {h:Hp} (hO:OkH h) {p:Int} {m:Nat}:(zcd h p m).length<9223372036854775808:=by
 cases e:(zM h p)[m]? with
 | none=>unfold zcd;rw [e];show ([]:List Int).length<9223372036854775808;decide
 | some row =>
  rw [zgt e]
  unfold zb7
  rw [List.length_map,z2x,zh2 _ (List.mem_filter.1 (List.mem_of_getElem? e)).1]
  have:=z2G hO p
  show (zJ h.st p).length+0<_
  omega
theorem zjr {E:Env} {f:FuncId} (hk:z2Z E f []=true):VP E f [] (bv true) :=
 ⟨rfl,fun S Z j vs hS hv hl=>by
  cases hv
  exact ⟨1,.bool true,S,fun m hm=>by
   obtain ⟨k,rfl,_⟩:=ze hm
   show bf (z2Z E f []) _ _=_
   rw [hk];rfl,bv true,[],Z,j,hS,.p (.bool true),Ex.refl _ _ _,hl,Stay.refl _ _,rfl,rfl⟩⟩
theorem zit {h:Hp} {p:Int}:(zer h p).length<9223372036854775808:=by
 rcases z18 h p with ⟨hO,e⟩ | e
 ·rw [show zer h p=zcd h p 0 from if_pos e];exact zdo hO
 ·rw [show zer h p=[] from if_neg (z3J e)];decide
theorem ziI {h:Hp} {p n:Int}:(zew h p n).length<9223372036854775808:=by
 rcases z18 h p with ⟨hO,e⟩ | e
 ·rw [show zew h p n=_ from if_pos e]
  cases (wth n 0 999&&decide (n<Int.ofNat (zM h p).length)) with
  | true=>exact zdo hO
  | false=>show ([]:List Int).length<9223372036854775808;decide
 ·rw [show zew h p n=[] from if_neg (z3J e)];decide
set_option maxHeartbeats 8000000 in
theorem z8a {t:Tr (List Value×TypeId)} {h:Hp} {b:Bool} {o:List Int} {p n x y w:Int} (hz:SzH h) (ho:o.length≤1048576):VP (sE (t,true)) 9 [.agg ((eHp h).map .p),.agg [iv p,iv n,iv x,iv y,iv w],.p (z3E b o)] (bv true):=by
 refine VP.of (fn:=Tryz.f9) z7 (zu rfl) (by kernel_rfl) rfl rfl rfl ?_
 refine VSt.go z7 false [24] 200 rfl AllP.n ?_
 refine z8 (zb 0 (eHp h) rfl rfl) ?_
 refine z8 (zb 1 [.int .i64 p,.int .i64 n,.int .i64 x,.int .i64 y,.int .i64 w] rfl rfl) ?_
 refine VSt.go z7 false [] 200 rfl AllP.n ?_
 refine VSt.pc rfl rfl rfl rfl rfl rfl rfl rfl ((zjs (p:=p) hz)) ?_
 refine VSt.go z7 false [] 200 rfl AllP.n ?_
 refine VSt.pc rfl rfl rfl rfl rfl rfl rfl rfl ((zg2 (p:=p) hz)) ?_
 refine VSt.go z7 false [] 200 rfl AllP.n ?_
 refine VSt.pc rfl rfl rfl rfl rfl rfl rfl rfl ((zju (p:=p) hz)) ?_
 refine VSt.go z7 false [] 200 rfl AllP.n ?_
 refine VSt.pc rfl rfl rfl rfl rfl rfl rfl rfl ((zg6 (p:=p) hz)) ?_
 refine VSt.go z7 false [] 200 rfl AllP.n ?_
 refine VSt.pc rfl rfl rfl rfl rfl rfl rfl rfl ((znj (p:=p) (n:=n) hz)) ?_
 refine VSt.go z7 false [] 200 rfl AllP.n ?_
 refine VSt.pc rfl rfl rfl rfl rfl rfl rfl rfl ((zkJ (p:=p) (n:=n) hz)) ?_
 refine VSt.go z7 false [] 200 rfl AllP.n ?_
 refine VSt.pc rfl rfl rfl rfl rfl rfl rfl rfl ((zlT (b:=b) (o:=o) (w:=w) hz ho)) ?_
 refine VSt.go z7 false [] 200 rfl AllP.n ?_
 refine VSt.pc rfl rfl rfl rfl rfl rfl rfl rfl ((zil (b:=b) (o:=o) (w:=w) hz ho)) ?_
 refine VSt.go z7 false [] 200 rfl AllP.n ?_
 refine z0b rfl rfl rfl rfl rfl rfl rfl rfl ((zfT (b1:=(zer h p).isEmpty) (b2:=(zer h p).isEmpty) (l:=zer h p) zit)) ?_
 refine VSt.go z7 false [] 200 rfl AllP.n ?_
 refine zd 88 rfl (fun q=>?_) (fun q=>?_)
 rotate_left
 ·exact absurd q (by decide)
 refine VSt.go z7 false [92] 200 rfl AllP.n ?_
 refine zi 91 (bv true) rfl (z00 (by rw [beq_self_eq_true])) ?_
 refine VSt.go z7 false [] 200 rfl AllP.n ?_
 refine zd 93 rfl (fun q=>?_) (fun q=>?_)
 rotate_left
 ·exact absurd q (by decide)
 refine VSt.go z7 false [97] 200 rfl AllP.n ?_
 refine zi 96 (bv true) rfl (z00 (by rw [beq_self_eq_true])) ?_
 refine VSt.go z7 false [] 200 rfl AllP.n ?_
 refine zd 98 rfl (fun q=>?_) (fun q=>?_)
 rotate_left
 ·exact absurd q (by decide)
 refine VSt.go z7 false [102] 200 rfl AllP.n ?_
 refine zi 101 (bv true) rfl (z00 (by rw [beq_self_eq_true])) ?_
 refine VSt.go z7 false [] 200 rfl AllP.n ?_
 refine zd 103 rfl (fun q=>?_) (fun q=>?_)
 rotate_left
 ·exact absurd q (by decide)
 refine VSt.go z7 false [] 200 rfl AllP.n ?_
 refine z0b rfl rfl rfl rfl rfl rfl rfl rfl ((zfT (b1:=(zew h p n).isEmpty) (b2:=(zew h p n).isEmpty) (l:=zew h p n) ziI)) ?_
 refine VSt.go z7 false [] 200 rfl AllP.n ?_
 refine zd 108 rfl (fun q=>?_) (fun q=>?_)
 rotate_left
 ·exact absurd q (by decide)
 refine VSt.go z7 false [112] 200 rfl AllP.n ?_
 refine zi 111 (bv true) rfl (z00 (by rw [beq_self_eq_true])) ?_
 refine VSt.go z7 false [] 200 rfl AllP.n ?_
 refine zd 113 rfl (fun q=>?_) (fun q=>?_)
 rotate_left
 ·exact absurd q (by decide)
 refine VSt.go z7 false [118] 200 rfl AllP.n ?_
 refine zi 117 (bv true) rfl (z00 (by rw [beq_self_eq_true,beq_self_eq_true];rfl)) ?_
 refine VSt.go z7 false [] 200 rfl AllP.n ?_
 refine zd 118 rfl (fun q=>?_) (fun q=>?_)
 rotate_left
 ·exact absurd q (by decide)
 refine VSt.go z7 false [122] 200 rfl AllP.n ?_
 refine zi 121 (bv true) rfl (z00 (by rw [beq_self_eq_true])) ?_
 refine VSt.go z7 false [] 200 rfl AllP.n ?_
 refine zd 123 rfl (fun q=>?_) (fun q=>?_)
 rotate_left
 ·exact absurd q (by decide)
 refine VSt.go z7 false [] 200 rfl AllP.n ?_
 refine z0b rfl rfl rfl rfl rfl rfl rfl rfl ((za5 (p:=p) (b:=b) (o:=o) hz (by omega))) ?_
 refine VSt.go z7 false [] 200 rfl AllP.n ?_
 refine z0b rfl rfl rfl rfl rfl rfl rfl rfl ((z88 (p:=p) (b:=b) (o:=o) hz (by omega))) ?_
 refine VSt.go z7 false [135] 200 rfl AllP.n ?_
 refine zi 134 (bv true) rfl (z00 (by rw [beq_self_eq_true])) ?_
 refine VSt.go z7 false [] 200 rfl AllP.n ?_
 refine zd 136 rfl (fun q=>?_) (fun q=>?_)
 rotate_left
 ·exact absurd q (by decide)
 refine VSt.go z7 false [] 200 rfl AllP.n ?_
 refine z0b rfl rfl rfl rfl rfl rfl rfl rfl ((zjr rfl)) ?_
 refine VSt.go z7 false [] 200 rfl AllP.n ?_
 exact EndsP.mk rfl rfl rfl rfl
end Go.Proofs.YtdpipdniklognaaGreat
/- Heaps and sheets as arguments. -/
set_option maxRecDepth 100000
namespace Go.Proofs.YtdpipdniklognaaGreat
noncomputable abbrev sE0:Env:=sE (.nil,true)
theorem z5G:∀ l:List PV,PImps l l
 | []=>trivial
 | a::l=>⟨PImp.refl a,z5G l⟩
theorem z1L {n:Nat} {q:List PV} (h:Sh sE0 (n+1) 3 q):∃ x,q=[.int .i64 x]∧inR x:=by
 obtain ⟨x,h,h2,h3⟩:=Sh.int (k:=.i64) (by kernel_rfl) h
 have h2 : -9223372036854775808≤x:=h2
 have h3:x≤9223372036854775807:=h3
 exact ⟨x,h,h2,by omega⟩
theorem zlH {n:Nat} {q:List PV} (h:Sh sE0 (n+2) 74 q):∃ s:Sht,q=zR s∧SzS s:=by
 obtain ⟨h1,h2⟩:=Sh.struct (sz:=6) (l:=[(3,0),(3,1),(3,2),(3,3),(3,4),(3,5)]) (by kernel_rfl) h
 match q,h1 with
 | [a,b,c,d,e,f],_ =>
  obtain ⟨x0,k0,_⟩:=z1L (h2 (3,0) (by simp) 1 (by kernel_rfl))
  obtain ⟨x1,k1,_⟩:=z1L (h2 (3,1) (by simp) 1 (by kernel_rfl))
  obtain ⟨x2,k2,_⟩:=z1L (h2 (3,2) (by simp) 1 (by kernel_rfl))
  obtain ⟨x3,k3,_⟩:=z1L (h2 (3,3) (by simp) 1 (by kernel_rfl))
  obtain ⟨x4,k4,r4⟩:=z1L (h2 (3,4) (by simp) 1 (by kernel_rfl))
  obtain ⟨x5,k5,r5⟩:=z1L (h2 (3,5) (by simp) 1 (by kernel_rfl))
  have k0:[a]=_:=k0
  have k1:[b]=_:=k1
  have k2:[c]=_:=k2
  have k3:[d]=_:=k3
  have k4:[e]=_:=k4
  have k5:[f]=_:=k5
  cases k0;cases k1;cases k2;cases k3;cases k4;cases k5
  exact ⟨⟨x0,x1,x2,x3,x4,x5⟩,rfl,r4,r5⟩
theorem zjm {n:Nat} {q:List PV} (h:Sh sE0 (n+3) 22 q):∃ (b:Bool) (l:List Sht),PImps q [z0W b l]∧(b=true→l=[])∧l.length<9223372036854775808∧∀ k,k<l.length→SzS (za l k):=by
 obtain ⟨nb,m,f,rfl,h1,h2,h3⟩:=Sh.slice (e:=74) (by kernel_rfl) h
 obtain ⟨l,rfl,h4⟩:=z9y (default:Sht) (P:=fun k s=>f k=zR s∧SzS s) fun k hk=>zlH (h3 k hk)
 exact ⟨nb,l,⟨PImp.lst fun k hk=>by rw [(h4 k hk).1];exact z5G _,trivial⟩,fun h=>List.length_eq_zero_iff.1 (h1 h),h2,fun k hk=>(h4 k hk).2⟩
theorem zlI {n:Nat} {q:List PV} (h:Sh sE0 (n+2) 58 q):∃ x:Sew,q=zf4 x:=by
 obtain ⟨h1,h2⟩:=Sh.struct (sz:=2) (l:=[(3,0),(3,1)]) (by kernel_rfl) h
 match q,h1 with
 | [a,b],_ =>
  obtain ⟨x0,k0,_⟩:=z1L (h2 (3,0) (by simp) 1 (by kernel_rfl))
  obtain ⟨x1,k1,_⟩:=z1L (h2 (3,1) (by simp) 1 (by kernel_rfl))
  have k0:[a]=_:=k0
  have k1:[b]=_:=k1
  cases k0;cases k1
  exact ⟨⟨x0,x1⟩,rfl⟩
theorem zjn {n:Nat} {q:List PV} (h:Sh sE0 (n+3) 23 q):∃ (b:Bool) (l:List Sew),PImps q [zcE b l]∧(b=true→l=[])∧l.length<9223372036854775808:=by
 obtain ⟨nb,m,f,rfl,h1,h2,h3⟩:=Sh.slice (e:=58) (by kernel_rfl) h
 obtain ⟨l,rfl,h4⟩:=z9y (default:Sew) (P:=fun k s=>f k=zf4 s) fun k hk=>zlI (h3 k hk)
 exact ⟨nb,l,⟨PImp.lst fun k hk=>by rw [h4 k hk];exact z5G _,trivial⟩,fun h=>List.length_eq_zero_iff.1 (h1 h),h2⟩
theorem zne {n:Nat} {q:List PV} (h:Sh sE0 (n+4) 25 q):∃ h:Hp,PImps q (eHp h)∧SzH h:=by
 obtain ⟨h1,h2⟩:=Sh.struct (sz:=2) (l:=[(22,0),(23,1)]) (by kernel_rfl) h
 match q,h1 with
 | [a,b],_ =>
  obtain ⟨b1,l1,k1,m1,n1,o1⟩:=zjm (h2 (22,0) (by simp) 1 (by kernel_rfl))
  obtain ⟨b2,l2,k2,m2,n2⟩:=zjn (h2 (23,1) (by simp) 1 (by kernel_rfl))
  have k1:PImps [a] _:=k1
  have k2:PImps [b] _:=k2
  exact ⟨⟨l1,b1,l2,b2⟩,⟨k1.1,k2.1,trivial⟩,⟨n1,n2,o1,m1,m2⟩⟩
theorem Sh.array {E:Env} {n:Nat} {t:TypeId} {qs:List PV} {sz w m:Nat} {e:TypeId} (hi:(E.ti.get t).map (fun i=>(i.size,i.desc))=some (sz,.array m e)) (he:(E.ti.get e).map (·.size)=some w) (h:Sh E (n+1) t qs):qs.length=sz∧∀ k,k<m→Sh E n e ((qs.drop (k*w)).take w):=by
 unfold Sh at h
 cases hg:E.ti.get t with
 | none=>rw [hg] at hi;cases hi
 | some i =>
  rw [hg] at hi h
  have hi:(i.size,i.desc)=(sz,.array m e):=Option.some.inj hi
  simp only [Prod.mk.injEq] at hi
  obtain ⟨h1,h2⟩:=hi
  simp only [h2] at h
  obtain ⟨h3,g,h4,h5⟩:=h
  rw [h4] at he
  have he:g.size=w:=Option.some.inj he
  subst he
  exact ⟨h3.trans h1,h5⟩
theorem Shs.two {E:Env} {n:Nat} {a b:TypeId}:∀ {qs:List (List PV)},Shs E n [a,b] qs→∃ q1 q2,qs=[q1,q2]∧Sh E n a q1∧Sh E n b q2
 | [],h=>h.elim
 | [_],h=>h.2.elim
 | [q1,q2],h=>⟨q1,q2,rfl,h.1,h.2.1⟩
 | _::_::_::_,h=>h.2.2.elim
theorem Shs.three {E:Env} {n:Nat} {a b c:TypeId}:∀ {qs:List (List PV)},Shs E n [a,b,c] qs→∃ q1 q2 q3,qs=[q1,q2,q3]∧Sh E n a q1∧Sh E n b q2∧Sh E n c q3
 | [],h=>h.elim
 | [_],h=>h.2.elim
 | [_,_],h=>h.2.2.elim
 | [q1,q2,q3],h=>⟨q1,q2,q3,rfl,h.1,h.2.1,h.2.2.1⟩
 | _::_::_::_::_,h=>h.2.2.2.elim
theorem PImps.one {q:List PV} {p0:PV}:PImps q [p0]→∃ p,q=[p]∧PImp p p0:=match q with
 | []=>fun h=>h.elim
 | [p]=>fun h=>⟨p,rfl,h.1⟩
 | _::_::_=>fun h=>h.2.elim
theorem PImps.two {q:List PV} {p0 p1:PV}:PImps q [p0,p1]→∃ a b,q=[a,b]∧PImp a p0∧PImp b p1:=match q with
 | []=>fun h=>h.elim
 | [p]=>fun h=>h.2.elim
 | [a,b]=>fun h=>⟨a,b,rfl,h.1,h.2.1⟩
 | _::_::_::_=>fun h=>h.2.2.elim
end Go.Proofs.YtdpipdniklognaaGreat
/- The law LeafOrders holds of what arguments look like, where the order is short. -/
set_option maxRecDepth 100000
namespace Go.Proofs.YtdpipdniklognaaGreat
open Go.ChangeShapes Go.WideShapes Go.RowKit
theorem zje {H:Type} (d:DataW H):1≤Rows.uptoBulk d:=by
 cases d with
 | lit l=>cases l <;> simp [Rows.uptoBulk]
 | nil=>simp [Rows.uptoBulk]
 | ptr d=>simp [Rows.uptoBulk]
 | slice elems spare=>simp [Rows.uptoBulk]
 | agg parts=>simp [Rows.uptoBulk]
 | iface t d=>simp [Rows.uptoBulk]
 | map entries=>simp [Rows.uptoBulk]
 | held h=>simp [Rows.uptoBulk]
theorem zhu {H:Type} {d:DataW H} {l:List (DataW H)} (h:d∈l):Rows.uptoBulk d≤Rows.uptoBulkAll l:=by
 induction l with
 | nil=>cases h
 | cons x r ih =>
  simp only [Rows.uptoBulkAll]
  cases List.mem_cons.1 h with
  | inl e=>subst e;omega
  | inr e=>have:=ih e;omega
theorem zjf {H:Type} (l:List (DataW H)):l.length≤Rows.uptoBulkAll l:=by
 induction l with
 | nil=>simp [Rows.uptoBulkAll]
 | cons x r ih=>have:=zje x;simp only [Rows.uptoBulkAll,List.length_cons];omega
theorem zeO {H:Type} {ds:List (DataW H)} (h:Rows.uptoSmall H ds=true) (els sp:List (DataW H)) (hm:DataW.slice els sp∈ds):els.length≤1048576:=by
 have h1:Rows.uptoBulkAll ds≤1048576:=of_decide_eq_true h
 have h2:=zhu hm
 have h3:Rows.uptoBulk (DataW.slice els sp)=Rows.uptoBulkAll els+Rows.uptoBulkAll sp+1:=by simp only [Rows.uptoBulk]
 have h4:=zjf els
 omega
theorem zhH {n:Nat} {q:List PV} (h:Sh sE0 (n+2) 37 q):∃ (b:Bool) (l:List Int) (f:Nat→List PV),q=[.lst 3 b l.length f]∧PImps q [z3E b l]∧(b=true→l=[]):=by
 obtain ⟨nb,m,f,rfl,h1,h2,h3⟩:=Sh.slice (e:=3) (by kernel_rfl) h
 obtain ⟨l,rfl,h4⟩:=z9y (0:Int) (P:=fun k x=>f k=[.int .i64 x]) fun k hk=>let ⟨x,h,_⟩:=Sh.int (k:=.i64) (by kernel_rfl) (h3 k hk);⟨x,h⟩
 exact ⟨nb,l,f,rfl,⟨PImp.lst fun k hk=>by rw [h4 k hk];exact ⟨PImp.refl _,trivial⟩,trivial⟩,fun h=>List.length_eq_zero_iff.1 (h1 h)⟩
theorem zlJ {n:Nat} {q:List PV} (h:Sh sE0 (n+2) 27 q):∃ a b c d e,q=[.int .i64 a,.int .i64 b,.int .i64 c,.int .i64 d,.int .i64 e]:=by
 obtain ⟨h1,h2⟩:=Sh.struct (sz:=5) (l:=[(3,0),(3,1),(3,2),(3,3),(3,4)]) (by kernel_rfl) h
 match q,h1 with
 | [a,b,c,d,e],_ =>
  obtain ⟨x0,k0,_⟩:=z1L (h2 (3,0) (by simp) 1 (by kernel_rfl))
  obtain ⟨x1,k1,_⟩:=z1L (h2 (3,1) (by simp) 1 (by kernel_rfl))
  obtain ⟨x2,k2,_⟩:=z1L (h2 (3,2) (by simp) 1 (by kernel_rfl))
  obtain ⟨x3,k3,_⟩:=z1L (h2 (3,3) (by simp) 1 (by kernel_rfl))
  obtain ⟨x4,k4,_⟩:=z1L (h2 (3,4) (by simp) 1 (by kernel_rfl))
  have k0:[a]=_:=k0
  have k1:[b]=_:=k1
  have k2:[c]=_:=k2
  have k3:[d]=_:=k3
  have k4:[e]=_:=k4
  cases k0;cases k1;cases k2;cases k3;cases k4
  exact ⟨x0,x1,x2,x3,x4,rfl⟩
theorem zi4:Tryz.checked.prog.underlying 37=some (.slice 3):=by kernel_rfl
theorem zc3 (r:Tr (List Value×TypeId)) (qs:List (List PV)) (h:Shs sE0 9 Tryz.f9.params.toList qs) (hs:zhP Tryz.checked.prog sE0 1048576 Tryz.f9.params.toList qs):VP (sE (r,true)) 9 (z6m sE0 Tryz.f9.params.toList qs) (.p (.bool true)):=by
 have e:Tryz.f9.params.toList=[25,27,37]:=rfl
 rw [e] at h hs ⊢
 obtain ⟨q1,q2,q3,rfl,g1,g2,g3⟩:=Shs.three h
 obtain ⟨hp,h1,hz⟩:=zne (n:=5) g1
 obtain ⟨a,b,c,d,w,rfl⟩:=zlJ (n:=7) g2
 obtain ⟨bo,o,f,rfl,h3,_⟩:=zhH (n:=7) g3
 have ho:o.length≤1048576:=hs 2 37 3 3 bo o.length f rfl zi4 (by kernel_rfl) rfl
 have e2:z6m sE0 [25,27,37] [q1,[.int .i64 a,.int .i64 b,.int .i64 c,.int .i64 d,.int .i64 w],[.lst 3 bo o.length f]]=[.agg (q1.map .p),.agg [iv a,iv b,iv c,iv d,iv w],.p (.lst 3 bo o.length f)]:=by
  show [za2 _ _ _,za2 _ _ _,za2 _ _ _]=_
  unfold za2
  rw [show zlO sE0 25=true by kernel_rfl,show zlO sE0 27=true by kernel_rfl,show zlO sE0 37=false by kernel_rfl];rfl
 rw [e2]
 exact VP.imp (z8a (b:=bo) (p:=a) (n:=b) (x:=c) (y:=d) (w:=w) hz ho) ⟨zhS h1,AImp.refl _,PImp.toA h3.1,trivial⟩
theorem znG:ownKnob Tryz.checked.prog.godebug=none:=by kernel_rfl
theorem z9l (os:Os) (started:os.Started) (H:Type) (enc:TypeId×Value→H) (F:Stop.Interp) :
  ReturnsInHanded {} Tryz.checked os 9 .any ((Rows.OpenSpec.upto Rows.leafOrdersSpec).pre6 enc Tryz.checked.prog Tryz.f9 [] false) (((Rows.OpenSpec.upto Rows.leafOrdersSpec).at F).post enc Tryz.checked.prog Tryz.f9 false Rows.leafOrdersUptoRow.fresh Rows.leafOrdersUptoRow.handsOn Rows.leafOrdersUptoRow.again):=by
 refine zaX (E:=sE0) (m:=9) (B:=1048576) (s:=Rows.leafOrdersSpec) (k:=Rows.uptoSmall) (tb:=4) znG started (by kernel_rfl) (by kernel_rfl)
  (OpenSpec.witness (enc:=enc) (C:=Tryz.checked) (s:=Rows.OpenSpec.upto Rows.leafOrdersSpec) (k:=Rows.uptoSmall) rfl false ⟨#[],#[.agg #[.slice none 0 0,.slice none 0 0],.agg #[.int .i64 0,.int .i64 0,.int .i64 0,.int .i64 0,.int .i64 0],.slice none 0 0],[]⟩ 20 (by kernel_rfl) (by kernel_rfl) (by kernel_rfl)
   (x:=([.agg [.nil,.nil],.agg [.lit (.int .i64 0),.lit (.int .i64 0),.lit (.int .i64 0),.lit (.int .i64 0),.lit (.int .i64 0)],.nil],[],[])) (by kernel_rfl) rfl (by kernel_rfl))
  (of_decide_eq_true (by kernel_rfl)) (fun r=>znJ (r,true)) (by kernel_rfl) (by kernel_rfl) (by kernel_rfl) (by kernel_rfl) (by kernel_rfl) rfl ?_ (fun ds h=>zeO h) zc3
 intro ds hds
 have:ds.length=3:=hds
 match ds,this with
 | [d1,d2,d3],_=>exact ⟨rfl,rfl,rfl⟩
theorem orders_holds:Rows.LeafOrdersUptoSaid :=
 OpenClaim.holds_of_cond 9 Tryz.f9 rfl rfl rfl rfl rfl rfl rfl ⟨rfl,rfl,rfl,rfl,rfl⟩ rfl rfl rfl rfl rfl (by kernel_rfl) (by kernel_rfl) (by kernel_rfl)
  (of_decide_eq_true (by kernel_rfl)) (by unfold Func.isWrapper;first | (rw [if_pos (by decide +kernel)];kernel_rfl) | (rw [if_neg (by decide +kernel)];exact ⟨rfl,rfl⟩))
  (fun os started H enc _ F=>z9l os started H enc F)
end Go.Proofs.YtdpipdniklognaaGreat
