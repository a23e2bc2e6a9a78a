/- The program's ChestTruths returns true for all openings, numbers and days, valid or not, without an exception and without changing its arguments: a part of the proof. -/
import Derived.Test.YtbieflpgjmgaiaaGreatVs
import Derived.Test.YtbieflpgjmgaiaaGreatVt
import Derived.Test.YtbieflpgjmgaiaaGreatRows
import Derived.Test.YtbieflpgjmgaiaaGreatVo
import Derived.JoinedOf
set_option linter.all false
/- The law ChestTruths holds of what arguments look like. -/
set_option maxRecDepth 100000
namespace Go.Proofs.YtbieflpgjmgaiaaGreat
open Go.ChangeShapes Go.WideShapes Go.RowKit
theorem truths_main (r : Tr (List Value × TypeId)) (qs : List (List PV)) (h : Shs sE0 9 Tryz.f3.params.toList qs) : VP (sE (r, true)) 3 (argAVs sE0 Tryz.f3.params.toList qs) (.p (.bool true)) := by
  have e : Tryz.f3.params.toList = [22, 23, 23] := rfl
  rw [e] at h ⊢
  match qs, h with
  | [q1, q2, q3], h =>
    obtain ⟨b, l, h1, hz⟩ := arg_opns (n := 5) h.1
    obtain ⟨x, y, rfl⟩ := arg_pair (n := 7) h.2.1
    obtain ⟨z, w, rfl⟩ := arg_pair (n := 7) h.2.2.1
    match q1, h1 with
    | [p], h1 =>
      have e2 : argAVs sE0 [22, 23, 23] [[p], [.int .i64 x, .int .i64 y], [.int .i64 z, .int .i64 w]] = [.p p, .agg [iv x, iv y], .agg [iv z, iv w]] := by
        show [argAV _ _ _, argAV _ _ _, argAV _ _ _] = _
        unfold argAV
        rw [show aggT sE0 22 = false by kernel_rfl, show aggT sE0 23 = true by kernel_rfl]; rfl
      rw [e2]
      exact VP.imp (chestTruths_law (b := b) hz) ⟨h1.1.toA, AImp.refl _, AImp.refl _, trivial⟩
theorem s_own : ownKnob Tryz.checked.prog.godebug = none := by kernel_rfl
theorem truths_lifted (os : Os) (started : os.Started) (H : Type) (enc : TypeId × Value → H) :
    ReturnsInHanded {} Tryz.checked os 3 .any (Rows.chestTruthsSpec.pre6 enc Tryz.checked.prog Tryz.f3 [] false) (Rows.chestTruthsSpec.post enc Tryz.checked.prog Tryz.f3 false Rows.chestTruthsRow.fresh Rows.chestTruthsRow.handsOn Rows.chestTruthsRow.again) := by
  refine law_handed (E := sE0) (m := 9) (tb := 4) s_own started (by kernel_rfl) (by kernel_rfl)
    (ChangeSpec.witness6 (enc := enc) (C := Tryz.checked) false ⟨#[], #[.slice none 0 0, .agg #[.int .i64 0, .int .i64 0], .agg #[.int .i64 0, .int .i64 0]], []⟩ 20 (by kernel_rfl) (by kernel_rfl) (by kernel_rfl) (by kernel_rfl))
    (of_decide_eq_true (by kernel_rfl)) (fun r => sH_ok (r, true)) (by kernel_rfl) (by kernel_rfl) (by kernel_rfl) (by kernel_rfl) (by kernel_rfl) rfl ?_ truths_main
  intro ds hds
  have : ds.length = 3 := hds
  match ds, this with
  | [d1, d2, d3], _ => exact ⟨rfl, rfl, rfl⟩
theorem truths_holds : Rows.ChestTruthsSaid :=
  OpenClaim.holds_of_wide 3 Tryz.f3 rfl rfl rfl rfl rfl rfl rfl ⟨rfl, rfl, rfl, rfl, rfl⟩ rfl rfl rfl rfl rfl (by kernel_rfl) (by kernel_rfl) (by kernel_rfl)
    (of_decide_eq_true (by kernel_rfl)) (by unfold Func.isWrapper; first | (rw [if_pos (by decide +kernel)]; kernel_rfl) | (rw [if_neg (by decide +kernel)]; exact ⟨rfl, rfl⟩))
    (fun os started H enc _ => truths_lifted os started H enc)
end Go.Proofs.YtbieflpgjmgaiaaGreat
