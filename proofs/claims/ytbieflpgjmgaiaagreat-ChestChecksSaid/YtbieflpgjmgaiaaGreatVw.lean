/- The program's ChestChecks returns true for all openings, valid or not, without an exception and without changing its arguments: a part of the proof. -/
import Derived.Test.YtbieflpgjmgaiaaGreatVv
import Derived.Test.YtbieflpgjmgaiaaGreatVt
import Derived.Test.YtbieflpgjmgaiaaGreatRows
import Derived.Test.YtbieflpgjmgaiaaGreatVp
import Derived.JoinedOf
set_option linter.all false
/- The law ChestChecks holds of what arguments look like. -/
set_option maxRecDepth 100000
namespace Go.Proofs.YtbieflpgjmgaiaaGreat
open Go.ChangeShapes Go.WideShapes Go.RowKit
theorem checks_main (r : Tr (List Value × TypeId)) (qs : List (List PV)) (h : Shs sE0 9 Tryz.f9.params.toList qs) : VP (sE (r, true)) 9 (argAVs sE0 Tryz.f9.params.toList qs) (.p (.bool true)) := by
  have e : Tryz.f9.params.toList = [22, 45] := rfl
  rw [e] at h ⊢
  obtain ⟨q1, q2, rfl, g1, g2⟩ := Shs.two h
  obtain ⟨b, l, h1, hz⟩ := arg_opns (n := 5) g1
  obtain ⟨o, h2, ho⟩ := arg_opn (n := 6) g2
  obtain ⟨p, rfl, h9⟩ := PImps.one h1
  have e2 : argAVs sE0 [22, 45] [[p], q2] = [.p p, .agg (q2.map .p)] := by
    show [argAV _ _ _, argAV _ _ _] = _
    unfold argAV
    rw [show aggT sE0 22 = false by kernel_rfl, show aggT sE0 45 = true by kernel_rfl]; rfl
  rw [e2]
  exact VP.imp (chestChecks_law (b := b) hz ho) ⟨PImp.toA h9, AImp.aggP h2, trivial⟩
theorem s_own : ownKnob Tryz.checked.prog.godebug = none := by kernel_rfl
theorem checks_lifted (os : Os) (started : os.Started) (H : Type) (enc : TypeId × Value → H) :
    ReturnsInHanded {} Tryz.checked os 9 .any (Rows.chestChecksSpec.pre6 enc Tryz.checked.prog Tryz.f9 [] false) (Rows.chestChecksSpec.post enc Tryz.checked.prog Tryz.f9 false Rows.chestChecksRow.fresh Rows.chestChecksRow.handsOn Rows.chestChecksRow.again) := by
  refine law_handed (E := sE0) (m := 9) (tb := 4) s_own started (by kernel_rfl) (by kernel_rfl)
    (ChangeSpec.witness6 (enc := enc) (C := Tryz.checked) false ⟨#[], #[.slice none 0 0, .agg #[.int .i64 0, .int .i64 0, .int .i64 0, .int .i64 0, .int .i64 0, .slice none 0 0, .slice none 0 0, .int .i64 0, .int .i64 0]], []⟩ 20 (by kernel_rfl) (by kernel_rfl) (by kernel_rfl) (by kernel_rfl))
    (of_decide_eq_true (by kernel_rfl)) (fun r => sH_ok (r, true)) (by kernel_rfl) (by kernel_rfl) (by kernel_rfl) (by kernel_rfl) (by kernel_rfl) rfl ?_ checks_main
  intro ds hds
  have : ds.length = 2 := hds
  match ds, this with
  | [d1, d2], _ => exact ⟨rfl, rfl, rfl⟩
theorem checks_holds : Rows.ChestChecksSaid :=
  OpenClaim.holds_of_wide 9 Tryz.f9 rfl rfl rfl rfl rfl rfl rfl ⟨rfl, rfl, rfl, rfl, rfl⟩ rfl rfl rfl rfl rfl (by kernel_rfl) (by kernel_rfl) (by kernel_rfl)
    (of_decide_eq_true (by kernel_rfl)) (by unfold Func.isWrapper; first | (rw [if_pos (by decide +kernel)]; kernel_rfl) | (rw [if_neg (by decide +kernel)]; exact ⟨rfl, rfl⟩))
    (fun os started H enc _ => checks_lifted os started H enc)
end Go.Proofs.YtbieflpgjmgaiaaGreat
