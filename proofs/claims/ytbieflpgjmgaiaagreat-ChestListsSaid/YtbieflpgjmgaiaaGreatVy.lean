/- The program's ChestLists returns true for all openings, numbers and days, valid or not, without an exception and without changing its arguments: a part of the proof. -/
import Derived.Test.YtbieflpgjmgaiaaGreatVx
import Derived.Test.YtbieflpgjmgaiaaGreatVt
import Derived.Test.YtbieflpgjmgaiaaGreatRows
import Derived.Test.YtbieflpgjmgaiaaGreatVo
import Derived.JoinedOf
set_option linter.all false
/- The law ChestLists holds of what arguments look like. -/
set_option maxRecDepth 100000
namespace Go.Proofs.YtbieflpgjmgaiaaGreat
open Go.ChangeShapes Go.WideShapes Go.RowKit
theorem Shs.tri {E:Env} {n:Nat} {a b c:TypeId}:∀ {qs:List (List PV)},Shs E n [a,b,c] qs→∃ q1 q2 q3,qs=[q1,q2,q3]∧Sh E n a q1∧Sh E n b q2∧Sh E n c q3
 | [],h=>h.elim
 | [_],h=>h.2.elim
 | [_,_],h=>h.2.2.elim
 | [q1,q2,q3],h=>⟨q1,q2,q3,rfl,h.1,h.2.1,h.2.2.1⟩
 | _::_::_::_::_,h=>h.2.2.2.elim
theorem lists_main (r:Tr (List Value×TypeId)) (qs:List (List PV)) (h:Shs sE0 9 Tryz.f4.params.toList qs):VP (sE (r,true)) 4 (argAVs sE0 Tryz.f4.params.toList qs) (.p (.bool true)):=by
 have e:Tryz.f4.params.toList=[22,3,23]:=rfl
 rw [e] at h ⊢
 obtain ⟨q1,q2,q3,rfl,g1,g2,g3⟩:=Shs.tri h
 obtain ⟨b,l,h1,hz⟩:=arg_opns (n:=5) g1
 obtain ⟨x,rfl,_⟩:=arg_intR (n:=8) g2
 obtain ⟨z,w,rfl⟩:=arg_pair (n:=7) g3
 obtain ⟨p,rfl,h9⟩:=PImps.one h1
 have e2:argAVs sE0 [22,3,23] [[p],[.int .i64 x],[.int .i64 z,.int .i64 w]]=[.p p,iv x,.agg [iv z,iv w]]:=by
  show [argAV _ _ _,argAV _ _ _,argAV _ _ _]=_
  unfold argAV
  rw [show aggT sE0 22=false by kernel_rfl,show aggT sE0 23=true by kernel_rfl,show aggT sE0 3=false by kernel_rfl];rfl
 rw [e2]
 exact VP.imp (chestLists_law (b:=b) hz) ⟨PImp.toA h9,AImp.refl _,AImp.refl _,trivial⟩
theorem s_own:ownKnob Tryz.checked.prog.godebug=none:=by kernel_rfl
theorem lists_lifted (os:Os) (started:os.Started) (H:Type) (enc:TypeId×Value→H) :
  ReturnsInHanded {} Tryz.checked os 4 .any (Rows.chestListsSpec.pre6 enc Tryz.checked.prog Tryz.f4 [] false) (Rows.chestListsSpec.post enc Tryz.checked.prog Tryz.f4 false Rows.chestListsRow.fresh Rows.chestListsRow.handsOn Rows.chestListsRow.again):=by
 refine law_handed (E:=sE0) (m:=9) (tb:=4) s_own started (by kernel_rfl) (by kernel_rfl)
  (ChangeSpec.witness6 (enc:=enc) (C:=Tryz.checked) false ⟨#[],#[.slice none 0 0,.int .i64 0,.agg #[.int .i64 0,.int .i64 0]],[]⟩ 20 (by kernel_rfl) (by kernel_rfl) (by kernel_rfl) (by kernel_rfl))
  (of_decide_eq_true (by kernel_rfl)) (fun r=>sH_ok (r,true)) (by kernel_rfl) (by kernel_rfl) (by kernel_rfl) (by kernel_rfl) (by kernel_rfl) rfl ?_ lists_main
 intro ds hds
 have:ds.length=3:=hds
 match ds,this with
 | [d1,d2,d3],_=>exact ⟨rfl,rfl,rfl⟩
theorem lists_holds:Rows.ChestListsSaid :=
 OpenClaim.holds_of_wide 4 Tryz.f4 rfl rfl rfl rfl rfl rfl rfl ⟨rfl,rfl,rfl,rfl,rfl⟩ rfl rfl rfl rfl rfl (by kernel_rfl) (by kernel_rfl) (by kernel_rfl)
  (of_decide_eq_true (by kernel_rfl)) (by unfold Func.isWrapper;first | (rw [if_pos (by decide +kernel)];kernel_rfl) | (rw [if_neg (by decide +kernel)];exact ⟨rfl,rfl⟩))
  (fun os started H enc _=>lists_lifted os started H enc)
end Go.Proofs.YtbieflpgjmgaiaaGreat
