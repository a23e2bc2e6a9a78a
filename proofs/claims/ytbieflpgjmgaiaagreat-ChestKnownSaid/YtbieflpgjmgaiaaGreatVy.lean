/- The program's ChestKnown returns true for all numbers without an exception and without changing its arguments: a part of the proof. -/
import Derived.Test.YtbieflpgjmgaiaaGreatVx
import Derived.Test.YtbieflpgjmgaiaaGreatVt
import Derived.Test.YtbieflpgjmgaiaaGreatRows
import Derived.Test.YtbieflpgjmgaiaaGreatVo
import Derived.JoinedOf
set_option linter.all false
/- The law ChestKnown holds of what arguments look like. -/
set_option maxRecDepth 100000
namespace Go.Proofs.YtbieflpgjmgaiaaGreat
open Go.ChangeShapes Go.WideShapes Go.RowKit
theorem arg_trip {n:Nat} {q:List PV} (h:Sh sE0 (n+2) 40 q):∃ x y z,q=[.int .i64 x,.int .i64 y,.int .i64 z]:=by
 obtain ⟨h1,h2⟩:=Sh.array (sz:=3) (w:=1) (m:=3) (e:=3) (by kernel_rfl) (by kernel_rfl) h
 match q,h1 with
 | [a,b,c],_ =>
  obtain ⟨x,h3⟩:=arg_int (h2 0 (by decide))
  obtain ⟨y,h4⟩:=arg_int (h2 1 (by decide))
  obtain ⟨z,h5⟩:=arg_int (h2 2 (by decide))
  have h3:[a]=[.int .i64 x]:=h3
  have h4:[b]=[.int .i64 y]:=h4
  have h5:[c]=[.int .i64 z]:=h5
  cases h3;cases h4;cases h5
  exact ⟨x,y,z,rfl⟩
theorem known_main (r:Tr (List Value×TypeId)) (qs:List (List PV)) (h:Shs sE0 9 Tryz.f5.params.toList qs):VP (sE (r,true)) 5 (argAVs sE0 Tryz.f5.params.toList qs) (.p (.bool true)):=by
 have e:Tryz.f5.params.toList=[39,40]:=rfl
 rw [e] at h ⊢
 obtain ⟨q1,q2,rfl,g1,g2⟩:=Shs.two h
 obtain ⟨b,l,h1,hn,hq⟩:=arg_raws (n:=6) g1
 obtain ⟨x,y,z,rfl⟩:=arg_trip (n:=7) g2
 obtain ⟨p,rfl,h9⟩:=PImps.one h1
 ··have e2:argAVs sE0 [39,40] [[p],[.int .i64 x,.int .i64 y,.int .i64 z]]=[.p p,.agg [iv x,iv y,iv z]]:=by
    show [argAV _ _ _,argAV _ _ _]=_
    unfold argAV
    rw [show aggT sE0 39=false by kernel_rfl,show aggT sE0 40=true by kernel_rfl];rfl
   rw [e2]
   exact VP.imp (chestKnown_law (b:=b) hn hq) ⟨PImp.toA h9,AImp.refl _,trivial⟩
theorem s_own:ownKnob Tryz.checked.prog.godebug=none:=by kernel_rfl
theorem known_lifted (os:Os) (started:os.Started) (H:Type) (enc:TypeId×Value→H) :
  ReturnsInHanded {} Tryz.checked os 5 .any (Rows.chestKnownSpec.pre6 enc Tryz.checked.prog Tryz.f5 [] false) (Rows.chestKnownSpec.post enc Tryz.checked.prog Tryz.f5 false Rows.chestKnownRow.fresh Rows.chestKnownRow.handsOn Rows.chestKnownRow.again):=by
 refine law_handed (E:=sE0) (m:=9) (tb:=4) s_own started (by kernel_rfl) (by kernel_rfl)
  (ChangeSpec.witness6 (enc:=enc) (C:=Tryz.checked) false ⟨#[],#[.slice none 0 0,.agg #[.int .i64 0,.int .i64 0,.int .i64 0]],[]⟩ 20 (by kernel_rfl) (by kernel_rfl) (by kernel_rfl) (by kernel_rfl))
  (of_decide_eq_true (by kernel_rfl)) (fun r=>sH_ok (r,true)) (by kernel_rfl) (by kernel_rfl) (by kernel_rfl) (by kernel_rfl) (by kernel_rfl) rfl ?_ known_main
 intro ds hds
 have:ds.length=2:=hds
 match ds,this with
 | [d1,d2],_=>exact ⟨rfl,rfl,rfl⟩
theorem known_holds:Rows.ChestKnownSaid :=
 OpenClaim.holds_of_wide 5 Tryz.f5 rfl rfl rfl rfl rfl rfl rfl ⟨rfl,rfl,rfl,rfl,rfl⟩ rfl rfl rfl rfl rfl (by kernel_rfl) (by kernel_rfl) (by kernel_rfl)
  (of_decide_eq_true (by kernel_rfl)) (by unfold Func.isWrapper;first | (rw [if_pos (by decide +kernel)];kernel_rfl) | (rw [if_neg (by decide +kernel)];exact ⟨rfl,rfl⟩))
  (fun os started H enc _=>known_lifted os started H enc)
end Go.Proofs.YtbieflpgjmgaiaaGreat
