/- The program's ChestMore returns true for all numbers without an exception and without changing its arguments: a part of the proof. -/
import Derived.Test.YtbieflpgjmgaiaaGreatVs
import Derived.Test.YtbieflpgjmgaiaaGreatVq
import Derived.Test.YtbieflpgjmgaiaaGreatVe
set_option linter.all false
/- Walks: the reference's matching. -/
set_option maxRecDepth 100000
namespace Go.Proofs.YtbieflpgjmgaiaaGreat
open Kuhn
variable {r:Rm}
end Go.Proofs.YtbieflpgjmgaiaaGreat
/- Walks: the reference's openings without some; whether some may be false. -/
set_option maxRecDepth 100000
namespace Go.Proofs.YtbieflpgjmgaiaaGreat
open Kuhn
variable {r:Rm}
def lessI (c:List Opn) (s:Int):List Opn:=(c.filter fun o=>!(o.source==s)).map cpO
theorem cpO_ok {o:Opn} (h:OkO o):OkO (cpO o):=⟨h.source,h.register,h.day,h.lawful,h.inn,h.out,h.com,h.known,h.until_⟩
theorem Vc.less {c:List Opn} (h:Vc c) (s:Int):Vc (lessI c s):=by
 refine ⟨fun o ho=>?_,?_⟩
 ·obtain ⟨x,hx,rfl⟩:=List.mem_map.1 ho
  exact cpO_ok (h.ok x (List.mem_filter.1 hx).1)
 ·unfold lessI
  rw [List.pairwise_map]
  exact h.rise.filter _
theorem lessI_len {c:List Opn} {s:Int}:(lessI c s).length≤c.length:=by
 unfold lessI
 rw [List.length_map]
 exact List.length_filter_le _ _
theorem Szs.of {c:List Opn} (hn:c.length<1000000) (h:∀ o,o∈c→Sz o):Szs c:=⟨hn,fun k hk=>h _ (getD_mem hk)⟩
theorem Szs.less {c:List Opn} (h:Szs c) (s:Int):Szs (lessI c s):=Szs.of (Nat.lt_of_le_of_lt lessI_len h.len) fun o ho=>by
 obtain ⟨x,hx,rfl⟩:=List.mem_map.1 ho
 exact cpO_sz (h.mem (List.mem_filter.1 hx).1)
end Go.Proofs.YtbieflpgjmgaiaaGreat
/- Walks: the reference's answers. -/
set_option maxRecDepth 100000
namespace Go.Proofs.YtbieflpgjmgaiaaGreat
open Kuhn
variable {r:Rm}
end Go.Proofs.YtbieflpgjmgaiaaGreat
/- Walks: the reference's True, Inside, Sealed: the same answers. -/
set_option maxRecDepth 100000
namespace Go.Proofs.YtbieflpgjmgaiaaGreat
open Kuhn
variable {r:Rm}
end Go.Proofs.YtbieflpgjmgaiaaGreat
/- Walks: the law of what is true, and lay in the chest, and was sealed. -/
set_option maxRecDepth 100000
namespace Go.Proofs.YtbieflpgjmgaiaaGreat
open Kuhn
variable {r:Rm}
theorem VP.hook {E:Env} {f:FuncId} (hk:hookL E f []=true):VP E f [] (bv true) :=
 ⟨rfl,fun S Z j vs hS hv hl=>by
  cases hv
  exact ⟨1,.bool true,S,fun m hm=>by
   obtain ⟨k,rfl,_⟩:=le_succ_ex hm
   show bf (hookL E f []) _ _=_
   rw [hk];rfl,bv true,[],Z,j,hS,.p (.bool true),Ex.refl _ _ _,hl,Stay.refl _ _,rfl,rfl⟩⟩
end Go.Proofs.YtbieflpgjmgaiaaGreat
/- Openings as arguments. -/
set_option maxRecDepth 100000
namespace Go.Proofs.YtbieflpgjmgaiaaGreat
noncomputable abbrev sE0:Env:=sE (.nil,true)
theorem arg_int {n:Nat} {q:List PV} (h:Sh sE0 (n+1) 3 q):∃ x,q=[.int .i64 x]:=let ⟨x,h,_⟩:=Sh.int (k:=.i64) (by kernel_rfl) h;⟨x,h⟩
theorem Sh.array {E:Env} {n:Nat} {t:TypeId} {qs:List PV} {sz w m:Nat} {e:TypeId} (hi:(E.ti.get t).map (fun i=>(i.size,i.desc))=some (sz,.array m e)) (he:(E.ti.get e).map (·.size)=some w) (h:Sh E (n+1) t qs):qs.length=sz∧∀ k,k<m→Sh E n e ((qs.drop (k*w)).take w):=by
 unfold Sh at h
 cases hg:E.ti.get t with
 | none=>rw [hg] at hi;cases hi
 | some i =>
  rw [hg] at hi h
  have hi:(i.size,i.desc)=(sz,.array m e):=Option.some.inj hi
  simp only [Prod.mk.injEq] at hi
  obtain ⟨h1,h2⟩:=hi
  simp only [h2] at h
  obtain ⟨h3,g,h4,h5⟩:=h
  rw [h4] at he
  have he:g.size=w:=Option.some.inj he
  subst he
  exact ⟨h3.trans h1,h5⟩
theorem arg_pair {n:Nat} {q:List PV} (h:Sh sE0 (n+2) 23 q):∃ x y,q=[.int .i64 x,.int .i64 y]:=by
 obtain ⟨h1,h2⟩:=Sh.array (sz:=2) (w:=1) (m:=2) (e:=3) (by kernel_rfl) (by kernel_rfl) h
 match q,h1 with
 | [a,b],_ =>
  obtain ⟨x,h3⟩:=arg_int (h2 0 (by decide))
  obtain ⟨y,h4⟩:=arg_int (h2 1 (by decide))
  have h3:[a]=[.int .i64 x]:=h3
  have h4:[b]=[.int .i64 y]:=h4
  cases h3;cases h4
  exact ⟨x,y,rfl⟩
end Go.Proofs.YtbieflpgjmgaiaaGreat
/- Openings that numbers determine. -/
namespace Go.Proofs.YtbieflpgjmgaiaaGreat
def md (n m:Int):Int:=(n.tmod m+m).tmod m
theorem tmod_lt {n m:Int} (h:0<m) : -m<n.tmod m∧n.tmod m<m:=by
 have h1:=Int.tmod_lt_of_pos n h
 have h2:=Int.tmod_lt_of_pos (-n) h
 rw [Int.neg_tmod] at h2
 omega
theorem md_bd {n m:Int} (h:0<m):0≤md n m∧md n m<m:=by
 have h1:=tmod_lt (n:=n) h
 exact ⟨Int.tmod_nonneg _ (by omega),Int.tmod_lt_of_pos _ h⟩
def mdN (n m:Int):Nat:=(md n m).toNat
theorem mdN_eq {n m:Int} (h:0<m):md n m=Int.ofNat (mdN n m):=(Int.toNat_of_nonneg (md_bd h).1).symm
structure Raw where
 a0:Int
 a1:Int
 a2:Int
 a3:Int
 a4:Int
 a5:Int
 a6:Int
 a7:Int
instance:Inhabited Raw:=⟨⟨0,0,0,0,0,0,0,0⟩⟩
def bitB (n:Int) (p:Nat):Bool:=Int.ofNat (mdN n 16 >>> p &&& 1)==1
def inM (r:Raw):Nat→List Int
 | 0=>[]
 | p+1=>bif bitB r.a4 p then inM r p++[5+Int.ofNat p] else inM r p
def ouM (r:Raw):Nat→List Int
 | 0=>[]
 | p+1=>bif !bitB r.a4 p&&bitB r.a5 p then ouM r p++[5+Int.ofNat p] else ouM r p
theorem inM_mem {r:Raw} {x:Int}:∀ {p:Nat},x∈inM r p→∃ q,q<p∧x=5+Int.ofNat q∧bitB r.a4 q=true
 | p+1,h=>by
  unfold inM at h
  cases hb:bitB r.a4 p with
  | true =>
   rw [hb] at h
   rcases List.mem_append.1 h with h | h
   ·obtain ⟨q,h1,h2⟩:=inM_mem h;exact ⟨q,by omega,h2⟩
   ·exact ⟨p,by omega,List.mem_singleton.1 h,hb⟩
  | false =>
   rw [hb] at h
   obtain ⟨q,h1,h2⟩:=inM_mem h;exact ⟨q,by omega,h2⟩
theorem ouM_mem {r:Raw} {x:Int}:∀ {p:Nat},x∈ouM r p→∃ q,q<p∧x=5+Int.ofNat q∧bitB r.a4 q=false
 | p+1,h=>by
  unfold ouM at h
  cases hb:(!bitB r.a4 p&&bitB r.a5 p) with
  | true =>
   rw [hb] at h
   rcases List.mem_append.1 h with h | h
   ·obtain ⟨q,h1,h2⟩:=ouM_mem h;exact ⟨q,by omega,h2⟩
   ·refine ⟨p,by omega,List.mem_singleton.1 h,?_⟩
    cases h1:bitB r.a4 p with
    | true=>rw [h1] at hb;cases hb
    | false=>rfl
  | false =>
   rw [hb] at h
   obtain ⟨q,h1,h2⟩:=ouM_mem h;exact ⟨q,by omega,h2⟩
structure Ris (l:List Int) (p:Nat):Prop where
 len:l.length≤p
 bd:∀ x∈l,5≤x∧x<5+Int.ofNat p
 pw:l.Pairwise fun a b=>a<b
theorem Ris.zero:Ris [] 0:=⟨Nat.le_refl _,fun x h=>(by cases h),.nil⟩
theorem Ris.skip {l:List Int} {p:Nat} (h:Ris l p):Ris l (p+1):=⟨Nat.le_succ_of_le h.len,fun x hx=>by have:=h.bd x hx;simp only [Int.ofNat_eq_natCast] at this ⊢;omega,h.pw⟩
theorem Ris.add {l:List Int} {p:Nat} (h:Ris l p):Ris (l++[5+Int.ofNat p]) (p+1):=by
 refine ⟨by rw [List.length_append];exact Nat.succ_le_succ h.len,fun x hx=>?_,?_⟩
 ·rcases List.mem_append.1 hx with hx | hx
  ·have:=h.bd x hx;simp only [Int.ofNat_eq_natCast] at this ⊢;omega
  ·have:=List.mem_singleton.1 hx;simp only [Int.ofNat_eq_natCast] at this ⊢;omega
 ·rw [List.pairwise_append]
  exact ⟨h.pw,List.pairwise_singleton _ _,fun a ha b hb=>by rw [List.mem_singleton.1 hb];exact (h.bd a ha).2⟩
theorem inM_ris (r:Raw):∀ p,Ris (inM r p) p
 | 0=>.zero
 | p+1=>by
  unfold inM
  cases bitB r.a4 p with
  | true=>exact (inM_ris r p).add
  | false=>exact (inM_ris r p).skip
theorem ouM_ris (r:Raw):∀ p,Ris (ouM r p) p
 | 0=>.zero
 | p+1=>by
  unfold ouM
  cases !bitB r.a4 p&&bitB r.a5 p with
  | true=>exact (ouM_ris r p).add
  | false=>exact (ouM_ris r p).skip
theorem Ris.named {l:List Int} {p:Nat} (h:Ris l p) (hp:p≤4):namedB l=true:=by
 unfold namedB
 rw [Bool.and_eq_true,decide_eq_true_iff]
 refine ⟨allB_iff.2 fun k hk=>?_,by have:=h.len;omega⟩
 have hb:=h.bd _ (getD_mem (d:=0) hk)
 simp only [Int.ofNat_eq_natCast] at hb
 unfold nameB
 rw [Bool.and_eq_true]
 refine ⟨wth_iff.2 (by omega),?_⟩
 by_cases h0:k=0
 ·subst h0;rfl
 ·have:=List.pairwise_iff_getElem.1 h.pw (k - 1) k (by omega) hk (by omega)
  rw [getD_get hk,getD_get (show k - 1<l.length by omega),decide_eq_true this,Bool.or_true]
def mkO (i:Nat) (a b:Int) (r:Raw):Opn :=
 { source:=1+Int.ofNat i,register:=1+md r.a0 2,day:=(if md r.a0 2=0 then a else b)+md r.a1 12,through:=(if md r.a0 2=0 then a else b)+md r.a1 12+md r.a2 20,lawful:=md r.a3 3,inn:=inM r 4,inB:=(inM r 4).isEmpty,out:=ouM r 4,outB:=(ouM r 4).isEmpty,known:=md r.a6 10,until_:=if md r.a7 4=0 then md r.a6 10+1+md (r.a7.tdiv 4) 6 else 0 }
structure Mk where
 out:List Opn
 a:Int
 b:Int
def mkS (m:Mk) (i:Nat) (r:Raw):Mk:=⟨m.out++[mkO i m.a m.b r],if md r.a0 2=0 then (mkO i m.a m.b r).through+1 else m.a,if md r.a0 2=0 then m.b else (mkO i m.a m.b r).through+1⟩
def mkA (l:List Raw):Nat→Mk
 | 0=>⟨[],0,0⟩
 | k+1=>mkS (mkA l k) k (l.getD k default)
def made (l:List Raw):List Opn:=(mkA l (min l.length 12)).out
structure MkO (m:Mk) (k:Nat):Prop where
 len:m.out.length=k
 ab:0≤m.a∧m.a≤32*Int.ofNat k∧0≤m.b∧m.b≤32*Int.ofNat k
 ok:∀ i,i<k→OkO (nth m.out i)
 src:∀ i,i<k→(nth m.out i).source=1+Int.ofNat i
 one:∀ i,i<k→((nth m.out i).register=1∧(nth m.out i).through<m.a)∨((nth m.out i).register=2∧(nth m.out i).through<m.b)
 apart:∀ i,i<k→∀ j,j<i→hit (nth m.out j) (nth m.out i)=false
theorem mk_zero:MkO ⟨[],0,0⟩ 0:=⟨rfl,⟨Int.le_refl _,by decide,Int.le_refl _,by decide⟩,fun i h=>absurd h (Nat.not_lt_zero i),fun i h=>absurd h (Nat.not_lt_zero i),fun i h=>absurd h (Nat.not_lt_zero i),fun i h=>absurd h (Nat.not_lt_zero i)⟩
theorem mkO_ok {k:Nat} {a b:Int} (r:Raw) (hk:k<12) (h:0≤a∧a≤32*Int.ofNat k∧0≤b∧b≤32*Int.ofNat k):OkO (mkO k a b r):=by
 have h0:=md_bd (n:=r.a0) (m:=2) (by decide)
 have h1:=md_bd (n:=r.a1) (m:=12) (by decide)
 have h2:=md_bd (n:=r.a2) (m:=20) (by decide)
 have h3:=md_bd (n:=r.a3) (m:=3) (by decide)
 have h6:=md_bd (n:=r.a6) (m:=10) (by decide)
 have h7:=md_bd (n:=r.a7.tdiv 4) (m:=6) (by decide)
 simp only [Int.ofNat_eq_natCast] at h
 refine ⟨wth_iff.2 ?_,wth_iff.2 ?_,?_,wth_iff.2 ?_,(inM_ris r 4).named (Nat.le_refl _),(ouM_ris r 4).named (Nat.le_refl _),?_,wth_iff.2 ?_,fun _=>wth_iff.2 ?_⟩
 ·show 1≤1+Int.ofNat k∧1+Int.ofNat k≤99999
  simp only [Int.ofNat_eq_natCast];omega
 ·show 1≤1+md r.a0 2∧1+md r.a0 2≤2
  omega
 ·show 0≤(if md r.a0 2=0 then a else b)+md r.a1 12∧(if md r.a0 2=0 then a else b)+md r.a1 12≤(if md r.a0 2=0 then a else b)+md r.a1 12+md r.a2 20∧(if md r.a0 2=0 then a else b)+md r.a1 12+md r.a2 20≤100000
  split <;> omega
 ·show 0≤md r.a3 3∧md r.a3 3≤2
  omega
 ·show comI (inM r 4) (ouM r 4)=false
  rw [←Bool.not_eq_true]
  intro hc
  obtain ⟨x,hx,hy⟩:=comI_iff.1 hc
  obtain ⟨q,_,e,h5⟩:=inM_mem hx
  obtain ⟨q',_,e',h5'⟩:=ouM_mem hy
  simp only [Int.ofNat_eq_natCast] at e e'
  have:q=q':=by omega
  subst this
  rw [h5] at h5';cases h5'
 ·show 0≤md r.a6 10∧md r.a6 10≤100000
  omega
 ·rename_i hu
  show md r.a6 10+1≤(if md r.a7 4=0 then md r.a6 10+1+md (r.a7.tdiv 4) 6 else 0)∧(if md r.a7 4=0 then md r.a6 10+1+md (r.a7.tdiv 4) 6 else 0)≤100000
  have hu:(if md r.a7 4=0 then md r.a6 10+1+md (r.a7.tdiv 4) 6 else 0)≠0:=hu
  split
  ·omega
  ·rename_i h;rw [if_neg h] at hu;exact absurd rfl hu
theorem nth_app {l:List Opn} {o:Opn} {i:Nat} (h:i<l.length):nth (l++[o]) i=nth l i:=by
 unfold nth
 rw [List.getD_eq_getElem?_getD,List.getD_eq_getElem?_getD,List.getElem?_append_left h]
theorem nth_last {l:List Opn} {o:Opn}:nth (l++[o]) l.length=o:=by
 unfold nth
 rw [List.getD_eq_getElem?_getD,List.getElem?_append_right (Nat.le_refl _),Nat.sub_self];rfl
theorem mk_step {m:Mk} {k:Nat} (h:MkO m k) (hk:k<12) (r:Raw):MkO (mkS m k r) (k+1):=by
 have h0:=md_bd (n:=r.a0) (m:=2) (by decide)
 have h1:=md_bd (n:=r.a1) (m:=12) (by decide)
 have h2:=md_bd (n:=r.a2) (m:=20) (by decide)
 have hab:=h.ab
 have hlen:=h.len
 have new:nth (mkS m k r).out k=mkO k m.a m.b r:=by rw [←hlen];exact nth_last
 have old:∀ i,i<k→nth (mkS m k r).out i=nth m.out i:=fun i hi=>nth_app (by omega)
 have hthr:(mkO k m.a m.b r).through=(if md r.a0 2=0 then m.a else m.b)+md r.a1 12+md r.a2 20:=rfl
 have hday:(mkO k m.a m.b r).day=(if md r.a0 2=0 then m.a else m.b)+md r.a1 12:=rfl
 have hreg:(mkO k m.a m.b r).register=1+md r.a0 2:=rfl
 have ha:(mkS m k r).a=if md r.a0 2=0 then (mkO k m.a m.b r).through+1 else m.a:=rfl
 have hb:(mkS m k r).b=if md r.a0 2=0 then m.b else (mkO k m.a m.b r).through+1:=rfl
 simp only [Int.ofNat_eq_natCast] at hab
 refine ⟨by show (m.out++[_]).length=_;rw [List.length_append,hlen];rfl,?_,fun i hi=>?_,fun i hi=>?_,fun i hi=>?_,fun i hi j hj=>?_⟩
 ·rw [ha,hb,hthr]
  simp only [Int.ofNat_eq_natCast]
  by_cases e:md r.a0 2=0
  ·simp only [if_pos e];omega
  ·simp only [if_neg e];omega
 ·by_cases e:i=k
  ·rw [e,new];exact mkO_ok r hk h.ab
  ·rw [old i (by omega)];exact h.ok i (by omega)
 ·by_cases e:i=k
  ·rw [e,new];rfl
  ·rw [old i (by omega)];exact h.src i (by omega)
 ·by_cases e:i=k
  ·rw [e,new,ha,hb,hreg]
   by_cases e0:md r.a0 2=0
   ·refine .inl ⟨by omega,?_⟩
    rw [if_pos e0];omega
   ·refine .inr ⟨by omega,?_⟩
    rw [if_neg e0];omega
  ·rw [old i (by omega),ha,hb,hthr]
   have:=h.one i (by omega)
   by_cases e0:md r.a0 2=0
   ·simp only [if_pos e0];omega
   ·simp only [if_neg e0];omega
 ·by_cases e:i=k
  ·subst e
   rw [new,old j hj]
   unfold hit
   rw [Bool.and_eq_false_iff]
   have:=h.one j hj
   have hm:∀ c:Int,(mkO i m.a m.b r).day ≥ c→(nth m.out j).through<c→(meetB (nth m.out j) (mkO i m.a m.b r)&&everB (nth m.out j) (mkO i m.a m.b r))=false:=fun c h3 h4=>by
    rw [Bool.and_eq_false_iff]
    refine .inl ?_
    unfold meetB
    rw [Bool.and_eq_false_iff]
    exact .inr (decide_eq_false (by omega))
   by_cases e0:md r.a0 2=0
   ·rcases this with ⟨h3,h4⟩ | ⟨h3,h4⟩
    ·exact .inr (hm m.a (by rw [hday,if_pos e0];omega) h4)
    ·refine .inl ?_
     rw [h3,hreg,e0];rfl
   ·rcases this with ⟨h3,h4⟩ | ⟨h3,h4⟩
    ·refine .inl ?_
     rw [h3,hreg,show md r.a0 2=1 by omega];rfl
    ·exact .inr (hm m.b (by rw [hday,if_neg e0];omega) h4)
  ·rw [old i (by omega),old j (by omega)];exact h.apart i (by omega) j hj
theorem mkA_ok (l:List Raw):∀ k,k≤12→MkO (mkA l k) k
 | 0,_=>mk_zero
 | k+1,h=>mk_step (mkA_ok l k (by omega)) (by omega) _
theorem made_reg (l:List Raw):Reg (made l):=by
 have hk:min l.length 12≤12:=Nat.min_le_right _ _
 have h:=mkA_ok l _ hk
 unfold made
 refine ⟨by rw [h.len];omega,fun i hi=>h.ok i (by rw [←h.len];exact hi),fun i h0 hi=>?_,fun i hi=>h.apart i (by rw [←h.len];exact hi)⟩
 rw [h.len] at hi
 rw [h.src i hi,h.src (i - 1) (by omega)]
 simp only [Int.ofNat_eq_natCast];omega
end Go.Proofs.YtbieflpgjmgaiaaGreat
/- Walks: openings that numbers determine. -/
set_option maxRecDepth 100000
namespace Go.Proofs.YtbieflpgjmgaiaaGreat
variable {r:Rm}
theorem Mod_ok {n m:Int} (hm:0<m) (hb:m<4611686018427387904):VP (sE r) 27 [iv n,iv m] (iv (md n m)):=by
 have h1:=tmod_lt (n:=n) hm
 have h2:m≠0:=by omega
 refine VP.of (fn:=Tryz.f27) tb_ok (wk_ok rfl) (by kernel_rfl) rfl rfl rfl ?_
 refine VSt.go tb_ok false [] 200 rfl (AllP.c ‹_› (AllP.c (by unfold inR;(try simp only [Int.ofNat_eq_natCast]);omega) (AllP.c ‹_› AllP.n))) ?_
 exact EndsP.mk rfl rfl rfl rfl
theorem Mod_okN {n m:Int} (hm:0<m) (hb:m<4611686018427387904):VP (sE r) 27 [iv n,iv m] (nv (mdN n m)):=by
 have h:=Mod_ok (r:=r) (n:=n) hm hb
 rw [mdN_eq hm] at h;exact h
def eRaw (r:Raw):List PV:=[.int .i64 r.a0,.int .i64 r.a1,.int .i64 r.a2,.int .i64 r.a3,.int .i64 r.a4,.int .i64 r.a5,.int .i64 r.a6,.int .i64 r.a7]
def eRaws (b:Bool) (l:List Raw):PV:=.lst 101 b l.length fun k=>eRaw (l.getD k default)
def mkM (m:Mk):VS:=[(1,.acc m.out.length 9 (fO m.out) 45),(0,.cells [iv 0,iv m.a,iv m.b] 40)]
theorem tdiv_in {n m:Int} (h:inR n) (hm:0<m):inR (n.tdiv m):=by
 have h1:(n.tdiv m).natAbs≤n.natAbs:=by rw [Int.natAbs_tdiv];exact Nat.div_le_self _ _
 unfold inR at *
 rcases Int.le_total 0 n with h0 | h0
 ·have:=Int.tdiv_nonneg h0 (Int.le_of_lt hm);omega
 ·have:=Int.tdiv_nonneg (a:= -n) (by omega) (Int.le_of_lt hm)
  rw [Int.neg_tdiv] at this;omega
theorem mdN_lt (n:Int):mdN n 16<16:=by have:=md_bd (n:=n) (m:=16) (by decide);unfold mdN;omega
theorem shr_lt {n:Int} (p:Nat):mdN n 16 >>> p<9223372036854775808:=by
 have:=mdN_lt n
 rw [Nat.shiftRight_eq_div_pow]
 exact Nat.lt_of_le_of_lt (Nat.div_le_self _ _) (by omega)
def mkW (k:Nat) (m:Mk) (q:Raw) (p:Nat):VS:=[(0,.cells [iv 0,iv (mkS m k q).a,iv (mkS m k q).b] 40),(1,.acc m.out.length 9 (fO m.out) 45),
 (2,.cells [iv (mkO k m.a m.b q).source,iv (mkO k m.a m.b q).register,iv (mkO k m.a m.b q).day,iv (mkO k m.a m.b q).through,iv (mkO k m.a m.b q).lawful,.acc true 3 1 (inM q p).length,.acc true 4 1 (ouM q p).length,iv (mkO k m.a m.b q).known,iv (mkO k m.a m.b q).until_] 45),
 (3,.acc (inM q p).length 1 (fL (inM q p)) 3),(4,.acc (ouM q p).length 1 (fL (ouM q p)) 3)]
theorem mkO_0 {k:Nat} {m:Mk} {q:Raw} (e:md q.a0 2=0):(mkO k m.a m.b q).register=1∧(mkO k m.a m.b q).day=m.a+md q.a1 12∧(mkO k m.a m.b q).through=m.a+md q.a1 12+md q.a2 20∧(mkS m k q).a=m.a+md q.a1 12+md q.a2 20+1∧(mkS m k q).b=m.b:=by
 refine ⟨?_,?_,?_,?_,?_⟩ <;> simp [mkS,mkO,e]
theorem mkO_1 {k:Nat} {m:Mk} {q:Raw} (e:¬ md q.a0 2=0):(mkO k m.a m.b q).register=2∧(mkO k m.a m.b q).day=m.b+md q.a1 12∧(mkO k m.a m.b q).through=m.b+md q.a1 12+md q.a2 20∧(mkS m k q).a=m.a∧(mkS m k q).b=m.b+md q.a1 12+md q.a2 20+1:=by
 have e1:md q.a0 2=1:=by have:=md_bd (n:=q.a0) (m:=2) (by decide);omega
 refine ⟨?_,?_,?_,?_,?_⟩ <;> simp [mkS,mkO,e1]
set_option maxHeartbeats 4000000 in
theorem Made_ok {b:Bool} {l:List Raw} (hn:l.length<9223372036854775808) (hq:∀ k,k<l.length→inR (l.getD k default).a7):VP (sE r) 26 [.p (eRaws b l)] (.p (eOpns (made l).isEmpty (made l))):=by
 refine VP.of (fn:=Tryz.f26) tb_ok (wk_ok rfl) (by kernel_rfl) rfl rfl rfl ?_
 refine VSt.go tb_ok false [] 200 rfl AllP.n ?_
 refine VSt.buildA tb_ok rfl rfl rfl rfl ?_
 refine VSt.go tb_ok false [] 200 rfl AllP.n ?_
 refine VSt.viewC (Vw.adopt 1 9 (fO []) 45 rfl) ?_
 refine VSt.loopT (ti:=5) (min l.length 12) [0,4] (fun k=>[(3,.acc true 1 9 (mkA l k).out.length)]) (fun k=>mkM (mkA l k)) (fun _=>True) rfl rfl (u0_cons rfl AImp.nilAcc u0_nil) (LImp.refl _) trivial (fun k hk _=>?_)
 have hM:=mkA_ok l k (by omega)
 have hlen:=hM.len
 have hab:=hM.ab
 refine VSt.go tb_ok false [] 200 rfl AllP.n ?_
 refine VSt.splitO 15 rfl (fun h1=>?_) (fun h1=>?_)
 ·have h1:=nlt h1
  refine VSt.go tb_ok false [] 200 rfl AllP.n ?_
  refine VSt.cond rfl (fun h2=>?_) (fun h2=>?_)
  ·have h2:k<12:=by have:=of_decide_eq_true h2;simp only [Int.ofNat_eq_natCast] at this;omega
   have h7:=hq k h1
   have e1:mkA l (k+1)=mkS (mkA l k) k (l.getD k default):=rfl
   rw [e1]
   refine VSt.go tb_ok false [6] 200 rfl (AllP.c ‹_› (AllP.c rfl AllP.n)) ?_
   generalize mkA l k=m at *
   generalize l.getD k default=q at *
   clear e1
   refine VSt.aside (eRaw q) tb_ok rfl rfl rfl rfl rfl rfl rfl rfl rfl rfl rfl ?_
   refine VSt.go tb_ok false [] 200 rfl (AllP.c (by show 0<_;omega) AllP.n) ?_
   have b0:=md_bd (n:=q.a0) (m:=2) (by decide)
   have b1:=md_bd (n:=q.a1) (m:=12) (by decide)
   have b2:=md_bd (n:=q.a2) (m:=20) (by decide)
   have b6:=md_bd (n:=q.a6) (m:=10) (by decide)
   have b8:=md_bd (n:=q.a7.tdiv 4) (m:=6) (by decide)
   simp only [Int.ofNat_eq_natCast] at hab
   obtain ⟨y1,g1⟩:=(⟨_,rfl⟩:∃ y,y=md q.a1 12)
   obtain ⟨y2,g2⟩:=(⟨_,rfl⟩:∃ y,y=md q.a2 20)
   obtain ⟨y6,g6⟩:=(⟨_,rfl⟩:∃ y,y=md q.a6 10)
   obtain ⟨y7,g7⟩:=(⟨_,rfl⟩:∃ y,y=md q.a7 4)
   obtain ⟨y8,g8⟩:=(⟨_,rfl⟩:∃ y,y=md (q.a7.tdiv 4) 6)
   rw [←g1] at b1
   rw [←g2] at b2
   rw [←g6] at b6
   rw [←g8] at b8
   have M1:VP (sE r) 27 [iv q.a1,iv 12] (iv y1):=by rw [g1];exact Mod_ok (by decide) (by decide)
   have M2:VP (sE r) 27 [iv q.a2,iv 20] (iv y2):=by rw [g2];exact Mod_ok (by decide) (by decide)
   have M6:VP (sE r) 27 [iv q.a6,iv 10] (iv y6):=by rw [g6];exact Mod_ok (by decide) (by decide)
   have M7:VP (sE r) 27 [iv q.a7,iv 4] (iv y7):=by rw [g7];exact Mod_ok (by decide) (by decide)
   have M8:VP (sE r) 27 [iv (q.a7.tdiv 4),iv 6] (iv y8):=by rw [g8];exact Mod_ok (by decide) (by decide)
   have i0:0<8:=by decide
   have i1:1<8:=by decide
   have j1:1<3:=by decide
   have j2:2<3:=by decide
   have i2:2<8:=by decide
   have i3:3<8:=by decide
   have i4:4<8:=by decide
   have i5:5<8:=by decide
   have i6:6<8:=by decide
   have i7:7<8:=by decide
   have ok:inR (1+Int.ofNat k):=by unfold inR;simp only [Int.ofNat_eq_natCast];omega
   have ok0:inR (1+0):=by unfold inR;omega
   have ok1:inR (1+1):=by unfold inR;omega
   have oa:inR (m.a+y1):=by unfold inR;omega
   have ob:inR (m.b+y1):=by unfold inR;omega
   have oa2:inR (m.a+y1+y2):=by unfold inR;omega
   have ob2:inR (m.b+y1+y2):=by unfold inR;omega
   have oa3:inR (m.a+y1+y2+1):=by unfold inR;omega
   have ob3:inR (m.b+y1+y2+1):=by unfold inR;omega
   have o6:inR (y6+1):=by unfold inR;omega
   have o8:inR (y6+1+y8):=by unfold inR;omega
   have o7:inR (q.a7.tdiv 4):=tdiv_in h7 (by decide)
   have eU:(mkO k m.a m.b q).until_=if y7=0 then y6+1+y8 else 0:=by rw [g6,g7,g8];rfl
   have eK:(mkO k m.a m.b q).known=y6:=g6.symm
   by_cases e0:md q.a0 2=0
   case' pos =>
    have eM:=mkO_0 (k:=k) (m:=m) e0
    refine VSt.pc rfl rfl rfl rfl rfl rfl rfl rfl ((show VP _ _ [iv q.a0,iv 2] (iv 0) by rw [←e0];exact Mod_ok (by decide) (by decide))) ?_
    refine VSt.go tb_ok false [29] 200 rfl (AllP.c ‹_› AllP.n) ?_
    refine VSt.putD 7 (iv 1) rfl (AImp.of_eq rfl) ?_
    refine VSt.go tb_ok false [] 200 rfl (AllP.c ‹_› (AllP.c ‹_› (AllP.c ‹_› AllP.n))) ?_
   case' neg =>
    have eM:=mkO_1 (k:=k) (m:=m) e0
    refine VSt.pc rfl rfl rfl rfl rfl rfl rfl rfl ((show VP _ _ [iv q.a0,iv 2] (iv 1) by rw [←show md q.a0 2=1 by omega];exact Mod_ok (by decide) (by decide))) ?_
    refine VSt.go tb_ok false [29] 200 rfl (AllP.c ‹_› AllP.n) ?_
    refine VSt.putD 7 (iv 2) rfl (AImp.of_eq rfl) ?_
    refine VSt.go tb_ok false [] 200 rfl (AllP.c ‹_› (AllP.c ‹_› (AllP.c ‹_› AllP.n))) ?_
   all_goals
    rw [←g1,←g2] at eM
    refine VSt.pcD rfl rfl rfl rfl rfl rfl rfl rfl (M1) ?_
    refine VSt.go tb_ok false [] 200 rfl (AllP.c ‹_› (AllP.c ‹_› AllP.n)) ?_
    refine VSt.pcD rfl rfl rfl rfl rfl rfl rfl rfl ((Mod_ok (n:=q.a3) (m:=3) (by decide) (by decide))) ?_
    refine VSt.go tb_ok false [] 200 rfl (AllP.c ‹_› AllP.n) ?_
    refine VSt.pcD rfl rfl rfl rfl rfl rfl rfl rfl (M6) ?_
    refine VSt.go tb_ok false [] 200 rfl (AllP.c ‹_› AllP.n) ?_
    refine VSt.pcD rfl rfl rfl rfl rfl rfl rfl rfl (M2) ?_
    refine VSt.go tb_ok false [] 200 rfl (AllP.c ‹_› (AllP.c ‹_› (AllP.c ‹_› (AllP.c ‹_› AllP.n)))) ?_
    refine VSt.pc rfl rfl rfl rfl rfl rfl rfl rfl (M7) ?_
    refine VSt.go tb_ok false [] 200 rfl AllP.n ?_
    refine VSt.cond rfl (fun h3=>?_) (fun h3=>?_)
    case' refine_1 =>
     have h3:y7=0:=by simpa using h3
     rw [if_pos h3] at eU
     refine VSt.go tb_ok false [] 200 rfl (AllP.c ‹_› (AllP.c ‹_› (AllP.c (by omega) (AllP.c ‹_› AllP.n)))) ?_
     refine VSt.pcD rfl rfl rfl rfl rfl rfl rfl rfl (M8) ?_
     refine VSt.go tb_ok false [] 200 rfl (AllP.c ‹_› AllP.n) ?_
    case' refine_2 =>
     have h3:y7≠0:=by simpa using h3
     rw [if_neg h3] at eU
     refine VSt.go tb_ok false [] 200 rfl AllP.n ?_
    all_goals
     refine VSt.viewC (Vw.adopt 3 1 (fL []) 3 rfl) ?_
     refine VSt.viewC (Vw.adopt 4 1 (fL []) 3 rfl) ?_
     refine VSt.viewC (Wk.vw (ps:=[(0,0),(1,1),(2,2),(3,3),(4,4)]) (F0:=[(0,.p (eRaws b l)),(3,.acc true 1 9 m.out.length),(4,.ref 0 0),(5,nv k),(6,.p (.fp (eRaw q) 0)),(8,.ref 2 0),(9,nv 0)]) (L0:=mkW k m q 0) ⟨rfl,rfl,(by repeat (first | exact wf_nil | refine wf_back rfl rfl rfl ?_)),_,rfl,?_⟩) ?_
     ·unfold mkW
      rw [eM.1,eM.2.1,eM.2.2.1,eM.2.2.2.1,eM.2.2.2.2,eU,eK]
      exact ⟨rfl,BImp.refl _,rfl,BImp.refl _,rfl,BImp.cells ⟨AImp.refl _,AImp.refl _,AImp.refl _,AImp.refl _,AImp.refl _,AImp.nilAcc,AImp.nilAcc,AImp.refl _,AImp.refl _,trivial⟩,rfl,BImp.refl _,rfl,BImp.refl _,trivial⟩
     refine VSt.loopT (ti:=9) 4 [0,3,4,5,6,8] (fun _=>[]) (fun p=>mkW k m q p) (fun _=>True) rfl rfl u0_nil (LImp.refl _) trivial (fun p hp _=>?_)
     have s4:=shr_lt (n:=q.a4) p
     have s5:=shr_lt (n:=q.a5) p
     have p64:p<64:=by omega
     have one:1<9223372036854775808:=by decide
     have li:=(inM_ris q p).len
     have lo:=(ouM_ris q p).len
     refine VSt.go tb_ok false [] 200 rfl AllP.n ?_
     refine VSt.cond rfl (fun h4=>?_) (fun h4=>?_)
     ·have h4:p<4:=by have:=of_decide_eq_true h4;simp only [Int.ofNat_eq_natCast] at this;omega
      refine VSt.go tb_ok false [] 200 rfl (AllP.c ‹_› AllP.n) ?_
      refine VSt.pc rfl rfl rfl rfl rfl rfl rfl rfl ((Mod_okN (n:=q.a4) (m:=16) (by decide) (by decide))) ?_
      refine VSt.go tb_ok false [] 200 rfl (AllP.c ‹_› (AllP.c ‹_› (AllP.c ‹_› AllP.n))) ?_
      refine VSt.cond rfl (fun h5=>?_) (fun h5=>?_)
      ·have e4:bitB q.a4 p=true:=h5
       have eI:inM q (p+1)=inM q p++[5+Int.ofNat p]:=by show (bif bitB q.a4 p then _ else _)=_;rw [e4];rfl
       have eO:ouM q (p+1)=ouM q p:=by show (bif !bitB q.a4 p&&bitB q.a5 p then _ else _)=_;rw [e4];rfl
       have hN:(inM q (p+1)).length=(inM q p).length+1:=by rw [eI,List.length_append];rfl
       refine VSt.go tb_ok false [] 200 rfl (AllP.c (by unfold inR;(try simp only [Int.ofNat_eq_natCast]);omega) (AllP.c (by omega) (AllP.c (by omega) (AllP.c (fun q hq=>match q,hq with | 0,_=>rfl) (AllP.c rfl (AllP.c rfl (AllP.c rfl (AllP.c (by unfold inR;(try simp only [Int.ofNat_eq_natCast]);omega) AllP.n)))))))) ?_
       refine ⟨h4,?_,trivial⟩
       refine Wk.vw (ps:=[(0,0),(1,1),(2,2),(3,5),(4,4)]) ⟨rfl,rfl,(by repeat (first | exact wf_nil | refine wf_back rfl rfl rfl ?_)),_,rfl,?_⟩
       unfold mkW
       rw [eO]
       exact ⟨rfl,BImp.refl _,rfl,BImp.refl _,rfl,BImp.cells ⟨AImp.refl _,AImp.refl _,AImp.refl _,AImp.refl _,AImp.refl _,AImp.acc hN.symm (fun _=>rfl),AImp.refl _,AImp.refl _,AImp.refl _,trivial⟩,rfl,BImp.acc hN.symm (fun x hx=>by rw [eI];exact app_int _ _ x hx),rfl,BImp.refl _,trivial⟩
      ·have e4:bitB q.a4 p=false:=h5
       have eI:inM q (p+1)=inM q p:=by show (bif bitB q.a4 p then _ else _)=_;rw [e4];rfl
       refine VSt.go tb_ok false [] 200 rfl (AllP.c ‹_› AllP.n) ?_
       refine VSt.pc rfl rfl rfl rfl rfl rfl rfl rfl ((Mod_okN (n:=q.a5) (m:=16) (by decide) (by decide))) ?_
       refine VSt.go tb_ok false [] 200 rfl (AllP.c ‹_› (AllP.c ‹_› (AllP.c ‹_› AllP.n))) ?_
       refine VSt.cond rfl (fun h6=>?_) (fun h6=>?_)
       ·have e6:bitB q.a5 p=true:=h6
        have eO:ouM q (p+1)=ouM q p++[5+Int.ofNat p]:=by show (bif !bitB q.a4 p&&bitB q.a5 p then _ else _)=_;rw [e4,e6];rfl
        have hN:(ouM q (p+1)).length=(ouM q p).length+1:=by rw [eO,List.length_append];rfl
        refine VSt.go tb_ok false [] 200 rfl (AllP.c (by unfold inR;(try simp only [Int.ofNat_eq_natCast]);omega) (AllP.c (by omega) (AllP.c (by omega) (AllP.c (fun q hq=>match q,hq with | 0,_=>rfl) (AllP.c rfl (AllP.c rfl (AllP.c rfl (AllP.c (by unfold inR;(try simp only [Int.ofNat_eq_natCast]);omega) AllP.n)))))))) ?_
        refine ⟨h4,?_,trivial⟩
        refine Wk.vw (ps:=[(0,0),(1,1),(2,2),(3,3),(4,5)]) ⟨rfl,rfl,(by repeat (first | exact wf_nil | refine wf_back rfl rfl rfl ?_)),_,rfl,?_⟩
        unfold mkW
        rw [eI]
        exact ⟨rfl,BImp.refl _,rfl,BImp.refl _,rfl,BImp.cells ⟨AImp.refl _,AImp.refl _,AImp.refl _,AImp.refl _,AImp.refl _,AImp.refl _,AImp.acc hN.symm (fun _=>rfl),AImp.refl _,AImp.refl _,trivial⟩,rfl,BImp.refl _,rfl,BImp.acc hN.symm (fun x hx=>by rw [eO];exact app_int _ _ x hx),trivial⟩
       ·have e6:bitB q.a5 p=false:=h6
        have eO:ouM q (p+1)=ouM q p:=by show (bif !bitB q.a4 p&&bitB q.a5 p then _ else _)=_;rw [e4,e6];rfl
        refine VSt.go tb_ok false [] 200 rfl (AllP.c (by unfold inR;(try simp only [Int.ofNat_eq_natCast]);omega) AllP.n) ?_
        refine ⟨h4,?_,trivial⟩
        refine Wk.vw (ps:=[(0,0),(1,1),(2,2),(3,3),(4,4)]) ⟨rfl,rfl,(by repeat (first | exact wf_nil | refine wf_back rfl rfl rfl ?_)),_,rfl,?_⟩
        unfold mkW
        rw [eI,eO]
        exact LImp.refl _
     ·have h4:p=4:=by have:=of_decide_eq_false h4;simp only [Int.ofNat_eq_natCast] at this;omega
      subst h4
      refine VSt.go tb_ok false [105] 200 rfl AllP.n ?_
      refine VSt.viewO (Vw.kp [0,4,5,103,104] [(0,0),(1,1),(2,3),(3,4)] rfl) ?_
      refine VSt.viewO (Vw.freezeA 2 rfl rfl ⟨Nat.le_refl _,rfl⟩) ?_
      refine VSt.viewO (Vw.freezeA 3 rfl rfl ⟨Nat.le_refl _,rfl⟩) ?_
      have e104:AV.agg [iv (mkO k m.a m.b q).source,iv (mkO k m.a m.b q).register,iv (mkO k m.a m.b q).day,iv (mkO k m.a m.b q).through,iv (mkO k m.a m.b q).lawful,.p (.lst 3 (true&&Nat.beq (inM q 4).length 0) (inM q 4).length (fL (inM q 4))),.p (.lst 3 (true&&Nat.beq (ouM q 4).length 0) (ouM q 4).length (fL (ouM q 4))),iv (mkO k m.a m.b q).known,iv (mkO k m.a m.b q).until_] = .agg ((eOpn (mkO k m.a m.b q)).map .p):=by
       rw [acc_eInts (j:=0) rfl,acc_eInts (j:=0) rfl];rfl
      refine VSt.putO 104 (.agg ((eOpn (mkO k m.a m.b q)).map .p)) rfl (AImp.of_eq e104) ?_
      have hN:(mkS m k q).out.length=m.out.length+1:=by show (m.out++[_]).length=_;rw [List.length_append];rfl
      have ml:m.out.length+1≤12:=by omega
      refine VSt.go tb_ok false [] 200 rfl (AllP.c (by omega) (AllP.c (by omega) (AllP.c (fun q hq=>match q,hq with | 0,_=>rfl) (AllP.c rfl (AllP.c rfl (AllP.c rfl (AllP.c (by unfold inR;(try simp only [Int.ofNat_eq_natCast]);omega) AllP.n))))))) ?_
      refine ⟨by omega,?_,trivial⟩
      refine Wk.vw (ps:=[(1,2),(0,0)]) ⟨rfl,rfl,(by repeat (first | exact wf_nil | refine wf_back rfl rfl rfl ?_ | refine wf_imp rfl rfl (AImp.acc hN.symm (fun _=>rfl)) ?_)),_,rfl,?_⟩
      exact ⟨rfl,BImp.acc hN.symm (fun x hx=>app_opn _ _ _ rfl x hx),rfl,BImp.refl _,trivial⟩
  ·have h2:k=min l.length 12:=by have:=of_decide_eq_false h2;simp only [Int.ofNat_eq_natCast] at this;omega
   subst h2
   refine VSt.go tb_ok false [107] 200 rfl AllP.n ?_
   refine VSt.viewO (Vw.kp [3] [(0,1)] rfl) ?_
   refine VSt.viewO (Vw.freezeA 0 rfl rfl ⟨Nat.le_refl _,rfl⟩) ?_
   refine VSt.go tb_ok false [] 200 rfl AllP.n ?_
   refine EndsP.mk rfl rfl rfl ?_
   exact acc_eLO rfl
 ·have h1:k=min l.length 12:=by have:=nge h1;omega
  subst h1
  refine VSt.go tb_ok false [107] 200 rfl AllP.n ?_
  refine VSt.viewO (Vw.kp [3] [(0,1)] rfl) ?_
  refine VSt.viewO (Vw.freezeA 0 rfl rfl ⟨Nat.le_refl _,rfl⟩) ?_
  refine VSt.go tb_ok false [] 200 rfl AllP.n ?_
  refine EndsP.mk rfl rfl rfl ?_
  exact acc_eLO rfl
end Go.Proofs.YtbieflpgjmgaiaaGreat
/- Walks: the program's Clashes and Fewest. -/
set_option maxRecDepth 100000
namespace Go.Proofs.YtbieflpgjmgaiaaGreat
open Kuhn
variable {r:Rm}
open Classical in
noncomputable def fewV (l:List Opn) (d:Int):Nat:=if askE l d=0 then lowN (edg (cnt l d nb)) else 0
theorem Fewest_ok {b:Bool} {l:List Opn} {d:Int} (hz:SzsW l):VP (sE r) 34 [.p (eOpns b l),iv d] (.tup [nv (fewV l d),iv (askE l d)]):=by
 have hlk:=look_ok (r:=r) (b:=b) (ds:=[d]) hz (show 0<1 by decide) (show 1<1000000 by decide)
 refine VP.of (fn:=Tryz.f34) tb_ok (wk_ok rfl) (by kernel_rfl) rfl rfl rfl ?_
 refine VSt.go tb_ok false [] 200 rfl AllP.n ?_
 rcases ask_cases l d with ⟨hR,hd,hE⟩ | ⟨hE,hl⟩
 ·have hz:=hR.szs
  rw [(look1 (b:=b) hR hd).1,(look1 (b:=b) hR hd).2] at hlk
  refine VSt.pc rfl rfl rfl rfl rfl rfl rfl rfl ((VP.imp hlk ⟨AImp.refl _,lit1,trivial⟩)) ?_
  refine VSt.go tb_ok false [] 200 rfl AllP.n ?_
  refine VSt.cond rfl (fun h=>absurd h (by decide)) (fun _=>?_)
  refine VSt.go tb_ok false [] 200 rfl AllP.n ?_
  refine VSt.pc rfl rfl rfl rfl rfl rfl rfl rfl ((fewest_ok (b:=b) (d:=d) hz hR)) ?_
  refine VSt.go tb_ok false [] 200 rfl AllP.n ?_
  refine EndsP.mk rfl rfl rfl ?_
  show AV.tup _=AV.tup _
  unfold fewV
  rw [if_pos hE,hE];rfl
 ·rw [(hl b).1,(hl b).2] at hlk
  refine VSt.pc rfl rfl rfl rfl rfl rfl rfl rfl ((VP.imp hlk ⟨AImp.refl _,lit1,trivial⟩)) ?_
  refine VSt.go tb_ok false [] 200 rfl AllP.n ?_
  refine VSt.cond rfl (fun _=>?_) (fun h=>?_)
  ·refine VSt.go tb_ok false [] 200 rfl AllP.n ?_
   refine EndsP.mk rfl rfl rfl ?_
   show AV.tup _=AV.tup _
   unfold fewV
   rw [if_neg hE];rfl
  ·have h:(!(askE l d==0))=false:=h
   exact absurd (by simpa using h) hE
end Go.Proofs.YtbieflpgjmgaiaaGreat
/- Numbers that determine openings, as arguments. -/
set_option maxRecDepth 100000
namespace Go.Proofs.YtbieflpgjmgaiaaGreat
theorem arg_intR {n:Nat} {q:List PV} (h:Sh sE0 (n+1) 3 q):∃ x,q=[.int .i64 x]∧inR x:=by
 obtain ⟨x,h,h2,h3⟩:=Sh.int (k:=.i64) (by kernel_rfl) h
 have e1:IntKind.i64.min = -9223372036854775808:=by decide
 have e2:IntKind.i64.max=9223372036854775807:=by decide
 refine ⟨x,h,?_⟩
 unfold inR
 omega
theorem arg_raw {n:Nat} {q:List PV} (h:Sh sE0 (n+2) 101 q):∃ o:Raw,q=eRaw o∧inR o.a7:=by
 obtain ⟨h1,h2⟩:=Sh.array (sz:=8) (w:=1) (m:=8) (e:=3) (by kernel_rfl) (by kernel_rfl) h
 match q,h1 with
 | [a,b,c,d,e,f,g,i],_ =>
  obtain ⟨x0,k0,_⟩:=arg_intR (h2 0 (by decide))
  obtain ⟨x1,k1,_⟩:=arg_intR (h2 1 (by decide))
  obtain ⟨x2,k2,_⟩:=arg_intR (h2 2 (by decide))
  obtain ⟨x3,k3,_⟩:=arg_intR (h2 3 (by decide))
  obtain ⟨x4,k4,_⟩:=arg_intR (h2 4 (by decide))
  obtain ⟨x5,k5,_⟩:=arg_intR (h2 5 (by decide))
  obtain ⟨x6,k6,_⟩:=arg_intR (h2 6 (by decide))
  obtain ⟨x7,k7,m7⟩:=arg_intR (h2 7 (by decide))
  have k0:[a]=_:=k0
  have k1:[b]=_:=k1
  have k2:[c]=_:=k2
  have k3:[d]=_:=k3
  have k4:[e]=_:=k4
  have k5:[f]=_:=k5
  have k6:[g]=_:=k6
  have k7:[i]=_:=k7
  cases k0;cases k1;cases k2;cases k3;cases k4;cases k5;cases k6;cases k7
  exact ⟨⟨x0,x1,x2,x3,x4,x5,x6,x7⟩,rfl,m7⟩
theorem arg_raws {n:Nat} {q:List PV} (h:Sh sE0 (n+3) 39 q):∃ (b:Bool) (l:List Raw),PImps q [eRaws b l]∧l.length<9223372036854775808∧∀ k,k<l.length→inR (l.getD k default).a7:=by
 obtain ⟨nb,m,f,rfl,h1,h2,h3⟩:=Sh.slice (e:=101) (by kernel_rfl) h
 obtain ⟨l,rfl,h4⟩:=list_of (default:Raw) (P:=fun k o=>f k=eRaw o∧inR o.a7) fun k hk=>arg_raw (h3 k hk)
 exact ⟨nb,l,⟨PImp.lst fun k hk=>by rw [(h4 k hk).1];exact ⟨PImp.refl _,PImp.refl _,PImp.refl _,PImp.refl _,PImp.refl _,PImp.refl _,PImp.refl _,PImp.refl _,trivial⟩,trivial⟩,h2,fun k hk=>(h4 k hk).2⟩
theorem Shs.two {E:Env} {n:Nat} {a b:TypeId}:∀ {qs:List (List PV)},Shs E n [a,b] qs→∃ q1 q2,qs=[q1,q2]∧Sh E n a q1∧Sh E n b q2
 | [],h=>h.elim
 | [_],h=>h.2.elim
 | [q1,q2],h=>⟨q1,q2,rfl,h.1,h.2.1⟩
 | _::_::_::_,h=>h.2.2.elim
theorem PImps.one {q:List PV} {p0:PV}:PImps q [p0]→∃ p,q=[p]∧PImp p p0:=match q with
 | []=>fun h=>h.elim
 | [p]=>fun h=>⟨p,rfl,h.1⟩
 | _::_::_=>fun h=>h.2.elim
end Go.Proofs.YtbieflpgjmgaiaaGreat
