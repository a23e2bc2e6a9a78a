/- The program's ChestMore returns true for all numbers without an exception and without changing its arguments: a part of the proof. -/
import Derived.Test.YtbieflpgjmgaiaaGreatVw
import Derived.Test.YtbieflpgjmgaiaaGreatVt
import Derived.Test.YtbieflpgjmgaiaaGreatRows
import Derived.Test.YtbieflpgjmgaiaaGreatVp
import Derived.JoinedOf
set_option linter.all false
/- The law ChestMore holds of what arguments look like. -/
set_option maxRecDepth 100000
namespace Go.Proofs.YtbieflpgjmgaiaaGreat
open Go.ChangeShapes Go.WideShapes Go.RowKit
theorem more_main (r:Tr (List Value×TypeId)) (qs:List (List PV)) (h:Shs sE0 9 Tryz.f8.params.toList qs):VP (sE (r,true)) 8 (argAVs sE0 Tryz.f8.params.toList qs) (.p (.bool true)):=by
 have e:Tryz.f8.params.toList=[39,23]:=rfl
 rw [e] at h ⊢
 obtain ⟨q1,q2,rfl,g1,g2⟩:=Shs.two h
 obtain ⟨b,l,h1,hn,hq⟩:=arg_raws (n:=6) g1
 obtain ⟨x,y,rfl⟩:=arg_pair (n:=7) g2
 obtain ⟨p,rfl,h9⟩:=PImps.one h1
 ··have e2:argAVs sE0 [39,23] [[p],[.int .i64 x,.int .i64 y]]=[.p p,.agg [iv x,iv y]]:=by
    show [argAV _ _ _,argAV _ _ _]=_
    unfold argAV
    rw [show aggT sE0 39=false by kernel_rfl,show aggT sE0 23=true by kernel_rfl];rfl
   rw [e2]
   exact VP.imp (chestMore_law (b:=b) hn hq) ⟨PImp.toA h9,AImp.refl _,trivial⟩
theorem s_own:ownKnob Tryz.checked.prog.godebug=none:=by kernel_rfl
theorem more_lifted (os:Os) (started:os.Started) (H:Type) (enc:TypeId×Value→H) :
  ReturnsInHanded {} Tryz.checked os 8 .any (Rows.chestMoreSpec.pre6 enc Tryz.checked.prog Tryz.f8 [] false) (Rows.chestMoreSpec.post enc Tryz.checked.prog Tryz.f8 false Rows.chestMoreRow.fresh Rows.chestMoreRow.handsOn Rows.chestMoreRow.again):=by
 refine law_handed (E:=sE0) (m:=9) (tb:=4) s_own started (by kernel_rfl) (by kernel_rfl)
  (ChangeSpec.witness6 (enc:=enc) (C:=Tryz.checked) false ⟨#[],#[.slice none 0 0,.agg #[.int .i64 0,.int .i64 0]],[]⟩ 20 (by kernel_rfl) (by kernel_rfl) (by kernel_rfl) (by kernel_rfl))
  (of_decide_eq_true (by kernel_rfl)) (fun r=>sH_ok (r,true)) (by kernel_rfl) (by kernel_rfl) (by kernel_rfl) (by kernel_rfl) (by kernel_rfl) rfl ?_ more_main
 intro ds hds
 have:ds.length=2:=hds
 match ds,this with
 | [d1,d2],_=>exact ⟨rfl,rfl,rfl⟩
theorem more_holds:Rows.ChestMoreSaid :=
 OpenClaim.holds_of_wide 8 Tryz.f8 rfl rfl rfl rfl rfl rfl rfl ⟨rfl,rfl,rfl,rfl,rfl⟩ rfl rfl rfl rfl rfl (by kernel_rfl) (by kernel_rfl) (by kernel_rfl)
  (of_decide_eq_true (by kernel_rfl)) (by unfold Func.isWrapper;first | (rw [if_pos (by decide +kernel)];kernel_rfl) | (rw [if_neg (by decide +kernel)];exact ⟨rfl,rfl⟩))
  (fun os started H enc _=>more_lifted os started H enc)
end Go.Proofs.YtbieflpgjmgaiaaGreat
