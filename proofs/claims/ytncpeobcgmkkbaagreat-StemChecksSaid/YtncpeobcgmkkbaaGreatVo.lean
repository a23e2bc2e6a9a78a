/- The program's StemChecks returns true for every stem and every ones, valid or not, without an exception and without changing its arguments: a part of the proof. -/
import Derived.Test.YtncpeobcgmkkbaaGreatVn
import Derived.Test.YtncpeobcgmkkbaaGreatRows
import Derived.Test.YtncpeobcgmkkbaaGreatVk
import Derived.JoinedOf
set_option linter.all false
/- The law of checks holds of what arguments look like. -/
set_option maxRecDepth 100000
namespace Go.Proofs.YtncpeobcgmkkbaaGreat
open Go.ChangeShapes Go.WideShapes Go.RowKit
theorem stemChecks_main (r : Tr (List Value × TypeId)) (qs : List (List PV)) (h : Shs (sE .nil) 9 Tryz.f6.params.toList qs) : VP (sE r) 6 (argAVs (sE .nil) Tryz.f6.params.toList qs) (.p (.bool true)) := by
  have e : Tryz.f6.params.toList = [27, 46] := rfl
  rw [e] at h ⊢
  match qs, h with
  | [q1, q2], h =>
    obtain ⟨s, h1, hs, hf⟩ := arg_stem (n := 4) h.1
    obtain ⟨c, co, id, a, b, h2, hw, hl⟩ := arg_one (n := 5) h.2.1
    have e2 : argAVs (sE .nil) [27, 46] [q1, q2] = [.agg (q1.map .p), .agg (q2.map .p)] := by
      show [argAV _ _ _, argAV _ _ _] = _
      unfold argAV
      rw [show aggT (sE .nil) 27 = true by kernel_rfl, show aggT (sE .nil) 46 = true by kernel_rfl]; rfl
    rw [e2]
    exact VP.imp (stemChecks_law hs hf hw hl) ⟨AImp.aggP h1, AImp.aggP h2, trivial⟩
theorem s_own : ownKnob Tryz.checked.prog.godebug = none := by kernel_rfl
theorem stemChecks_lifted (os : Os) (started : os.Started) (H : Type) (enc : TypeId × Value → H) :
    ReturnsInHanded {} Tryz.checked os 6 .any (Rows.stemChecksSpec.pre6 enc Tryz.checked.prog Tryz.f6 [] false) (Rows.stemChecksSpec.post enc Tryz.checked.prog Tryz.f6 false Rows.stemChecksRow.fresh Rows.stemChecksRow.handsOn Rows.stemChecksRow.again) := by
  refine law_handed (E := sE .nil) (m := 9) (tb := 4) s_own started (by kernel_rfl) (by kernel_rfl)
    (ChangeSpec.witness6 (enc := enc) (C := Tryz.checked) false ⟨#[], #[.agg #[.slice none 0 0, .int .i64 0, .int .i64 0, .int .i64 0, .int .i64 0, .slice none 0 0], .agg #[.int .i64 0, .slice none 0 0, .int .i64 0, .int .i64 0, .int .i64 0, .int .i64 0, .int .i64 0, .int .i64 0, .int .i64 0]], []⟩ 20 (by kernel_rfl) (by kernel_rfl) (by kernel_rfl) (by kernel_rfl))
    (of_decide_eq_true (by kernel_rfl)) (fun r => sH_ok r) (by kernel_rfl) (by kernel_rfl) (by kernel_rfl) (by kernel_rfl) (by kernel_rfl) rfl ?_ stemChecks_main
  intro ds hds
  have : ds.length = 2 := hds
  match ds, this with
  | [d1, d2], _ => exact ⟨rfl, rfl, rfl⟩
theorem stemChecks_holds : Rows.StemChecksSaid :=
  OpenClaim.holds_of_wide 6 Tryz.f6 rfl rfl rfl rfl rfl rfl rfl ⟨rfl, rfl, rfl, rfl, rfl⟩ rfl rfl rfl rfl rfl (by kernel_rfl) (by kernel_rfl) (by kernel_rfl)
    (of_decide_eq_true (by kernel_rfl)) (by unfold Func.isWrapper; first | (rw [if_pos (by decide +kernel)]; kernel_rfl) | (rw [if_neg (by decide +kernel)]; exact ⟨rfl, rfl⟩))
    (fun os started H enc _ => stemChecks_lifted os started H enc)
end Go.Proofs.YtncpeobcgmkkbaaGreat
