/- The program's StemPedigrees returns true for every stem and every list of numbers, valid or not, without an exception and without changing its arguments: a part of the proof. -/
import Derived.Test.YtncpeobcgmkkbaaGreatVr
import Derived.Test.YtncpeobcgmkkbaaGreatRows
import Derived.Test.YtncpeobcgmkkbaaGreatVm
import Derived.JoinedOf
set_option linter.all false
/- The law of pedigrees holds of what arguments look like. -/
set_option maxRecDepth 100000
namespace Go.Proofs.YtncpeobcgmkkbaaGreat
open Go.ChangeShapes Go.WideShapes Go.RowKit
theorem arg_stem_ints (r : Tr (List Value × TypeId)) {f : Nat} (ps : List TypeId) (e : ps = [27, 28]) (law : ∀ {s : Stem} {b : Bool} {l : List Int}, s.Ok → s.Flags → l.length < 9223372036854775808 → VP (sE r) f [.agg ((eStem s).map .p), .p (eInts b l)] (bv true)) (qs : List (List PV)) (h : Shs (sE .nil) 9 ps qs) : VP (sE r) f (argAVs (sE .nil) ps qs) (.p (.bool true)) := by
  rw [e] at h ⊢
  match qs, h with
  | [q1, q2], h =>
    obtain ⟨s, h1, hs, hf⟩ := arg_stem (n := 4) h.1
    obtain ⟨b, l, h2, hb, hl⟩ := arg_ints (n := 7) h.2.1
    match q2, h2 with
    | [q], h2 =>
      have e2 : argAVs (sE .nil) [27, 28] [q1, [q]] = [.agg (q1.map .p), .p q] := by
        show [argAV _ _ _, argAV _ _ _] = _
        unfold argAV
        rw [show aggT (sE .nil) 27 = true by kernel_rfl, show aggT (sE .nil) 28 = false by kernel_rfl]; rfl
      rw [e2]
      exact VP.imp (law hs hf hl) ⟨AImp.aggP h1, h2.1.toA, trivial⟩
theorem s_own : ownKnob Tryz.checked.prog.godebug = none := by kernel_rfl
theorem stemPedigrees_main (r : Tr (List Value × TypeId)) (qs : List (List PV)) (h : Shs (sE .nil) 9 Tryz.f3.params.toList qs) : VP (sE r) 3 (argAVs (sE .nil) Tryz.f3.params.toList qs) (.p (.bool true)) :=
  arg_stem_ints r _ rfl (fun h1 h2 h3 => stemPedigrees_law h1 h2 h3) qs h
theorem stemPedigrees_lifted (os : Os) (started : os.Started) (H : Type) (enc : TypeId × Value → H) :
    ReturnsInHanded {} Tryz.checked os 3 .any (Rows.stemPedigreesSpec.pre6 enc Tryz.checked.prog Tryz.f3 [] false) (Rows.stemPedigreesSpec.post enc Tryz.checked.prog Tryz.f3 false Rows.stemPedigreesRow.fresh Rows.stemPedigreesRow.handsOn Rows.stemPedigreesRow.again) := by
  refine law_handed (E := sE .nil) (m := 9) (tb := 4) s_own started (by kernel_rfl) (by kernel_rfl)
    (ChangeSpec.witness6 (enc := enc) (C := Tryz.checked) false ⟨#[], #[.agg #[.slice none 0 0, .int .i64 0, .int .i64 0, .int .i64 0, .int .i64 0, .slice none 0 0], .slice none 0 0], []⟩ 20 (by kernel_rfl) (by kernel_rfl) (by kernel_rfl) (by kernel_rfl))
    (of_decide_eq_true (by kernel_rfl)) (fun r => sH_ok r) (by kernel_rfl) (by kernel_rfl) (by kernel_rfl) (by kernel_rfl) (by kernel_rfl) rfl ?_ stemPedigrees_main
  intro ds hds
  have : ds.length = 2 := hds
  match ds, this with
  | [d1, d2], _ => exact ⟨rfl, rfl, rfl⟩
theorem stemPedigrees_holds : Rows.StemPedigreesSaid :=
  OpenClaim.holds_of_wide 3 Tryz.f3 rfl rfl rfl rfl rfl rfl rfl ⟨rfl, rfl, rfl, rfl, rfl⟩ rfl rfl rfl rfl rfl (by kernel_rfl) (by kernel_rfl) (by kernel_rfl)
    (of_decide_eq_true (by kernel_rfl)) (by unfold Func.isWrapper; first | (rw [if_pos (by decide +kernel)]; kernel_rfl) | (rw [if_neg (by decide +kernel)]; exact ⟨rfl, rfl⟩))
    (fun os started H enc _ => stemPedigrees_lifted os started H enc)
end Go.Proofs.YtncpeobcgmkkbaaGreat
