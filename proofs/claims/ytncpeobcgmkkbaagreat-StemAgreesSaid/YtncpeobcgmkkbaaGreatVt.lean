/- The program's StemAgrees returns true for every stem, one and number, valid or not, without an exception and without changing its arguments: a part of the proof. -/
import Derived.Test.YtncpeobcgmkkbaaGreatVs
import Derived.Test.YtncpeobcgmkkbaaGreatRows
import Derived.Test.YtncpeobcgmkkbaaGreatVm
import Derived.JoinedOf
set_option linter.all false
/- The law of what agrees holds of what arguments look like. -/
set_option maxRecDepth 100000
namespace Go.Proofs.YtncpeobcgmkkbaaGreat
open Go.ChangeShapes Go.WideShapes Go.RowKit
theorem shs3 {E:Env} {n:Nat} {a b c:TypeId}:∀ {qs:List (List PV)},Shs E n [a,b,c] qs→∃ q1 q2 q3,qs=[q1,q2,q3]
 | [q1,q2,q3],_=>⟨q1,q2,q3,rfl⟩
theorem stemAgrees_main (r:Tr (List Value×TypeId)) (qs:List (List PV)) (h:Shs (sE .nil) 9 Tryz.f4.params.toList qs):VP (sE r) 4 (argAVs (sE .nil) Tryz.f4.params.toList qs) (.p (.bool true)):=by
 have e:Tryz.f4.params.toList=[27,46,3]:=rfl
 rw [e] at h ⊢
 obtain ⟨q1,q2,q3,rfl⟩:=shs3 h
 obtain ⟨s,h1,hs,hf⟩:=arg_stem (n:=4) h.1
 obtain ⟨c,co,id,a,b,h2,hw,hl⟩:=arg_one (n:=5) h.2.1
 obtain ⟨z,h3,_⟩:=Sh.int (k:=.i64) (by kernel_rfl) h.2.2.1
 have h3:q3=[.int .i64 z]:=h3
 subst h3
 have e2:argAVs (sE .nil) [27,46,3] [q1,q2,[.int .i64 z]]=[.agg (q1.map .p),.agg (q2.map .p),iv z]:=by
  show [argAV _ _ _,argAV _ _ _,argAV _ _ _]=_
  unfold argAV
  rw [show aggT (sE .nil) 27=true by kernel_rfl,show aggT (sE .nil) 46=true by kernel_rfl,show aggT (sE .nil) 3=false by kernel_rfl];rfl
 rw [e2]
 exact VP.imp (stemAgrees_law hs hf) ⟨AImp.aggP h1,AImp.aggP h2,AImp.refl _,trivial⟩
theorem s_own:ownKnob Tryz.checked.prog.godebug=none:=by kernel_rfl
theorem stemAgrees_lifted (os:Os) (started:os.Started) (H:Type) (enc:TypeId×Value→H) :
  ReturnsInHanded {} Tryz.checked os 4 .any (Rows.stemAgreesSpec.pre6 enc Tryz.checked.prog Tryz.f4 [] false) (Rows.stemAgreesSpec.post enc Tryz.checked.prog Tryz.f4 false Rows.stemAgreesRow.fresh Rows.stemAgreesRow.handsOn Rows.stemAgreesRow.again):=by
 refine law_handed (E:=sE .nil) (m:=9) (tb:=4) s_own started (by kernel_rfl) (by kernel_rfl)
  (ChangeSpec.witness6 (enc:=enc) (C:=Tryz.checked) false ⟨#[],#[.agg #[.slice none 0 0,.int .i64 0,.int .i64 0,.int .i64 0,.int .i64 0,.slice none 0 0],.agg #[.int .i64 0,.slice none 0 0,.int .i64 0,.int .i64 0,.int .i64 0,.int .i64 0,.int .i64 0,.int .i64 0,.int .i64 0],.int .i64 0],[]⟩ 20 (by kernel_rfl) (by kernel_rfl) (by kernel_rfl) (by kernel_rfl))
  (of_decide_eq_true (by kernel_rfl)) (fun r=>sH_ok r) (by kernel_rfl) (by kernel_rfl) (by kernel_rfl) (by kernel_rfl) (by kernel_rfl) rfl ?_ stemAgrees_main
 intro ds hds
 have:ds.length=3:=hds
 match ds,this with
 | [d1,d2,d3],_=>exact ⟨rfl,rfl,rfl⟩
theorem stemAgrees_holds:Rows.StemAgreesSaid :=
 OpenClaim.holds_of_wide 4 Tryz.f4 rfl rfl rfl rfl rfl rfl rfl ⟨rfl,rfl,rfl,rfl,rfl⟩ rfl rfl rfl rfl rfl (by kernel_rfl) (by kernel_rfl) (by kernel_rfl)
  (of_decide_eq_true (by kernel_rfl)) (by unfold Func.isWrapper;first | (rw [if_pos (by decide +kernel)];kernel_rfl) | (rw [if_neg (by decide +kernel)];exact ⟨rfl,rfl⟩))
  (fun os started H enc _=>stemAgrees_lifted os started H enc)
end Go.Proofs.YtncpeobcgmkkbaaGreat
