/- The program's LeafChecks returns true for all heaps, sheets, papers and Ids, valid or not, without an exception and without changing its arguments: a part of the proof. -/
import Derived.Test.YtdpipdniklognaaGreatVx
import Derived.Test.YtdpipdniklognaaGreatVe
import Derived.Test.YtdpipdniklognaaGreatRows
import Derived.Test.YtdpipdniklognaaGreatVw
import Derived.JoinedOf
set_option linter.all false
/- Heaps and sheets as arguments. -/
set_option maxRecDepth 100000
namespace Go.Proofs.YtdpipdniklognaaGreat
noncomputable abbrev sE0:Env:=sE (.nil,true)
theorem pimps_refl:∀ l:List PV,PImps l l
 | []=>trivial
 | a::l=>⟨PImp.refl a,pimps_refl l⟩
theorem arg_int {n:Nat} {q:List PV} (h:Sh sE0 (n+1) 3 q):∃ x,q=[.int .i64 x]∧inR x:=by
 obtain ⟨x,h,h2,h3⟩:=Sh.int (k:=.i64) (by kernel_rfl) h
 have h2 : -9223372036854775808≤x:=h2
 have h3:x≤9223372036854775807:=h3
 exact ⟨x,h,h2,by omega⟩
theorem arg_str {n:Nat} {q:List PV} (h:Sh sE0 (n+2) 74 q):∃ s:Sht,q=eStr s∧SzS s:=by
 obtain ⟨h1,h2⟩:=Sh.struct (sz:=6) (l:=[(3,0),(3,1),(3,2),(3,3),(3,4),(3,5)]) (by kernel_rfl) h
 match q,h1 with
 | [a,b,c,d,e,f],_ =>
  obtain ⟨x0,k0,_⟩:=arg_int (h2 (3,0) (by simp) 1 (by kernel_rfl))
  obtain ⟨x1,k1,_⟩:=arg_int (h2 (3,1) (by simp) 1 (by kernel_rfl))
  obtain ⟨x2,k2,_⟩:=arg_int (h2 (3,2) (by simp) 1 (by kernel_rfl))
  obtain ⟨x3,k3,_⟩:=arg_int (h2 (3,3) (by simp) 1 (by kernel_rfl))
  obtain ⟨x4,k4,r4⟩:=arg_int (h2 (3,4) (by simp) 1 (by kernel_rfl))
  obtain ⟨x5,k5,r5⟩:=arg_int (h2 (3,5) (by simp) 1 (by kernel_rfl))
  have k0:[a]=_:=k0
  have k1:[b]=_:=k1
  have k2:[c]=_:=k2
  have k3:[d]=_:=k3
  have k4:[e]=_:=k4
  have k5:[f]=_:=k5
  cases k0;cases k1;cases k2;cases k3;cases k4;cases k5
  exact ⟨⟨x0,x1,x2,x3,x4,x5⟩,rfl,r4,r5⟩
theorem arg_strs {n:Nat} {q:List PV} (h:Sh sE0 (n+3) 22 q):∃ (b:Bool) (l:List Sht),PImps q [eStrs b l]∧(b=true→l=[])∧l.length<9223372036854775808∧∀ k,k<l.length→SzS (nthS l k):=by
 obtain ⟨nb,m,f,rfl,h1,h2,h3⟩:=Sh.slice (e:=74) (by kernel_rfl) h
 obtain ⟨l,rfl,h4⟩:=list_of (default:Sht) (P:=fun k s=>f k=eStr s∧SzS s) fun k hk=>arg_str (h3 k hk)
 exact ⟨nb,l,⟨PImp.lst fun k hk=>by rw [(h4 k hk).1];exact pimps_refl _,trivial⟩,fun h=>List.length_eq_zero_iff.1 (h1 h),h2,fun k hk=>(h4 k hk).2⟩
theorem arg_sew {n:Nat} {q:List PV} (h:Sh sE0 (n+2) 58 q):∃ x:Sew,q=eSew x:=by
 obtain ⟨h1,h2⟩:=Sh.struct (sz:=2) (l:=[(3,0),(3,1)]) (by kernel_rfl) h
 match q,h1 with
 | [a,b],_ =>
  obtain ⟨x0,k0,_⟩:=arg_int (h2 (3,0) (by simp) 1 (by kernel_rfl))
  obtain ⟨x1,k1,_⟩:=arg_int (h2 (3,1) (by simp) 1 (by kernel_rfl))
  have k0:[a]=_:=k0
  have k1:[b]=_:=k1
  cases k0;cases k1
  exact ⟨⟨x0,x1⟩,rfl⟩
theorem arg_sews {n:Nat} {q:List PV} (h:Sh sE0 (n+3) 23 q):∃ (b:Bool) (l:List Sew),PImps q [eSews b l]∧(b=true→l=[])∧l.length<9223372036854775808:=by
 obtain ⟨nb,m,f,rfl,h1,h2,h3⟩:=Sh.slice (e:=58) (by kernel_rfl) h
 obtain ⟨l,rfl,h4⟩:=list_of (default:Sew) (P:=fun k s=>f k=eSew s) fun k hk=>arg_sew (h3 k hk)
 exact ⟨nb,l,⟨PImp.lst fun k hk=>by rw [h4 k hk];exact pimps_refl _,trivial⟩,fun h=>List.length_eq_zero_iff.1 (h1 h),h2⟩
theorem arg_hp {n:Nat} {q:List PV} (h:Sh sE0 (n+4) 25 q):∃ h:Hp,PImps q (eHp h)∧SzH h:=by
 obtain ⟨h1,h2⟩:=Sh.struct (sz:=2) (l:=[(22,0),(23,1)]) (by kernel_rfl) h
 match q,h1 with
 | [a,b],_ =>
  obtain ⟨b1,l1,k1,m1,n1,o1⟩:=arg_strs (h2 (22,0) (by simp) 1 (by kernel_rfl))
  obtain ⟨b2,l2,k2,m2,n2⟩:=arg_sews (h2 (23,1) (by simp) 1 (by kernel_rfl))
  have k1:PImps [a] _:=k1
  have k2:PImps [b] _:=k2
  exact ⟨⟨l1,b1,l2,b2⟩,⟨k1.1,k2.1,trivial⟩,⟨n1,n2,o1,m1,m2⟩⟩
theorem Sh.array {E:Env} {n:Nat} {t:TypeId} {qs:List PV} {sz w m:Nat} {e:TypeId} (hi:(E.ti.get t).map (fun i=>(i.size,i.desc))=some (sz,.array m e)) (he:(E.ti.get e).map (·.size)=some w) (h:Sh E (n+1) t qs):qs.length=sz∧∀ k,k<m→Sh E n e ((qs.drop (k*w)).take w):=by
 unfold Sh at h
 cases hg:E.ti.get t with
 | none=>rw [hg] at hi;cases hi
 | some i =>
  rw [hg] at hi h
  have hi:(i.size,i.desc)=(sz,.array m e):=Option.some.inj hi
  simp only [Prod.mk.injEq] at hi
  obtain ⟨h1,h2⟩:=hi
  simp only [h2] at h
  obtain ⟨h3,g,h4,h5⟩:=h
  rw [h4] at he
  have he:g.size=w:=Option.some.inj he
  subst he
  exact ⟨h3.trans h1,h5⟩
theorem arg_three {n:Nat} {q:List PV} (h:Sh sE0 (n+2) 66 q):∃ x y z,q=[.int .i64 x,.int .i64 y,.int .i64 z]:=by
 obtain ⟨h1,h2⟩:=Sh.array (sz:=3) (w:=1) (m:=3) (e:=3) (by kernel_rfl) (by kernel_rfl) h
 match q,h1 with
 | [a,b,c],_ =>
  obtain ⟨x,h3,_⟩:=arg_int (h2 0 (by decide))
  obtain ⟨y,h4,_⟩:=arg_int (h2 1 (by decide))
  obtain ⟨z,h5,_⟩:=arg_int (h2 2 (by decide))
  have h3:[a]=[.int .i64 x]:=h3
  have h4:[b]=[.int .i64 y]:=h4
  have h5:[c]=[.int .i64 z]:=h5
  cases h3;cases h4;cases h5
  exact ⟨x,y,z,rfl⟩
theorem Shs.two {E:Env} {n:Nat} {a b:TypeId}:∀ {qs:List (List PV)},Shs E n [a,b] qs→∃ q1 q2,qs=[q1,q2]∧Sh E n a q1∧Sh E n b q2
 | [],h=>h.elim
 | [_],h=>h.2.elim
 | [q1,q2],h=>⟨q1,q2,rfl,h.1,h.2.1⟩
 | _::_::_::_,h=>h.2.2.elim
theorem Shs.three {E:Env} {n:Nat} {a b c:TypeId}:∀ {qs:List (List PV)},Shs E n [a,b,c] qs→∃ q1 q2 q3,qs=[q1,q2,q3]∧Sh E n a q1∧Sh E n b q2∧Sh E n c q3
 | [],h=>h.elim
 | [_],h=>h.2.elim
 | [_,_],h=>h.2.2.elim
 | [q1,q2,q3],h=>⟨q1,q2,q3,rfl,h.1,h.2.1,h.2.2.1⟩
 | _::_::_::_::_,h=>h.2.2.2.elim
theorem PImps.one {q:List PV} {p0:PV}:PImps q [p0]→∃ p,q=[p]∧PImp p p0:=match q with
 | []=>fun h=>h.elim
 | [p]=>fun h=>⟨p,rfl,h.1⟩
 | _::_::_=>fun h=>h.2.elim
theorem PImps.two {q:List PV} {p0 p1:PV}:PImps q [p0,p1]→∃ a b,q=[a,b]∧PImp a p0∧PImp b p1:=match q with
 | []=>fun h=>h.elim
 | [p]=>fun h=>h.2.elim
 | [a,b]=>fun h=>⟨a,b,rfl,h.1,h.2.1⟩
 | _::_::_::_=>fun h=>h.2.2.elim
end Go.Proofs.YtdpipdniklognaaGreat
/- The law LeafChecks holds of what arguments look like. -/
set_option maxRecDepth 100000
namespace Go.Proofs.YtdpipdniklognaaGreat
open Go.ChangeShapes Go.WideShapes Go.RowKit
theorem checks_main (r:Tr (List Value×TypeId)) (qs:List (List PV)) (h:Shs sE0 9 Tryz.f11.params.toList qs):VP (sE (r,true)) 11 (argAVs sE0 Tryz.f11.params.toList qs) (.p (.bool true)):=by
 have e:Tryz.f11.params.toList=[25,74,66]:=rfl
 rw [e] at h ⊢
 obtain ⟨q1,q2,q3,rfl,g1,g2,g3⟩:=Shs.three h
 obtain ⟨hp,h1,hz⟩:=arg_hp (n:=5) g1
 obtain ⟨s,rfl,hs⟩:=arg_str (n:=7) g2
 obtain ⟨a,b,c,rfl⟩:=arg_three (n:=7) g3
 have e2:argAVs sE0 [25,74,66] [q1,eStr s,[.int .i64 a,.int .i64 b,.int .i64 c]]=[.agg (q1.map .p),.agg ((eStr s).map .p),.agg [iv a,iv b,iv c]]:=by
  show [argAV _ _ _,argAV _ _ _,argAV _ _ _]=_
  unfold argAV
  rw [show aggT sE0 25=true by kernel_rfl,show aggT sE0 74=true by kernel_rfl,show aggT sE0 66=true by kernel_rfl];rfl
 rw [e2]
 exact VP.imp (leafChecks_law (a:=a) (b:=b) (c:=c) hz hs) ⟨AImp.aggP h1,AImp.refl _,AImp.refl _,trivial⟩
theorem s_own:ownKnob Tryz.checked.prog.godebug=none:=by kernel_rfl
theorem checks_lifted (os:Os) (started:os.Started) (H:Type) (enc:TypeId×Value→H) :
  ReturnsInHanded {} Tryz.checked os 11 .any (Rows.leafChecksSpec.pre6 enc Tryz.checked.prog Tryz.f11 [] false) (Rows.leafChecksSpec.post enc Tryz.checked.prog Tryz.f11 false Rows.leafChecksRow.fresh Rows.leafChecksRow.handsOn Rows.leafChecksRow.again):=by
 refine law_handed (E:=sE0) (m:=9) (tb:=4) s_own started (by kernel_rfl) (by kernel_rfl)
  (ChangeSpec.witness6 (enc:=enc) (C:=Tryz.checked) false ⟨#[],#[.agg #[.slice none 0 0,.slice none 0 0],.agg #[.int .i64 0,.int .i64 0,.int .i64 0,.int .i64 0,.int .i64 0,.int .i64 0],.agg #[.int .i64 0,.int .i64 0,.int .i64 0]],[]⟩ 20 (by kernel_rfl) (by kernel_rfl) (by kernel_rfl) (by kernel_rfl))
  (of_decide_eq_true (by kernel_rfl)) (fun r=>sH_ok (r,true)) (by kernel_rfl) (by kernel_rfl) (by kernel_rfl) (by kernel_rfl) (by kernel_rfl) rfl ?_ checks_main
 intro ds hds
 have:ds.length=3:=hds
 match ds,this with
 | [d1,d2,d3],_=>exact ⟨rfl,rfl,rfl⟩
theorem checks_holds:Rows.LeafChecksSaid :=
 OpenClaim.holds_of_wide 11 Tryz.f11 rfl rfl rfl rfl rfl rfl rfl ⟨rfl,rfl,rfl,rfl,rfl⟩ rfl rfl rfl rfl rfl (by kernel_rfl) (by kernel_rfl) (by kernel_rfl)
  (of_decide_eq_true (by kernel_rfl)) (by unfold Func.isWrapper;first | (rw [if_pos (by decide +kernel)];kernel_rfl) | (rw [if_neg (by decide +kernel)];exact ⟨rfl,rfl⟩))
  (fun os started H enc _=>checks_lifted os started H enc)
end Go.Proofs.YtdpipdniklognaaGreat
