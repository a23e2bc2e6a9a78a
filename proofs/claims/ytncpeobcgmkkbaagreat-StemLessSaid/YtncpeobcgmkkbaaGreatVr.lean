/- The program's StemLess returns true for every stem and every pair of numbers, valid or not, without an exception and without changing its arguments: a part of the proof. -/
import Derived.Test.YtncpeobcgmkkbaaGreatVq
import Derived.Test.YtncpeobcgmkkbaaGreatRows
import Derived.Test.YtncpeobcgmkkbaaGreatVm
import Derived.JoinedOf
set_option linter.all false
/- The law of one more Never holds of what arguments look like. -/
set_option maxRecDepth 100000
namespace Go.Proofs.YtncpeobcgmkkbaaGreat
open Go.ChangeShapes Go.WideShapes Go.RowKit
theorem Sh.array {E : Env} {n : Nat} {t : TypeId} {qs : List PV} {sz w m : Nat} {e : TypeId} (hi : (E.ti.get t).map (fun i => (i.size, i.desc)) = some (sz, .array m e)) (he : (E.ti.get e).map (·.size) = some w) (h : Sh E (n + 1) t qs) : qs.length = sz ∧ ∀ k, k < m → Sh E n e ((qs.drop (k * w)).take w) := by
  unfold Sh at h
  cases hg : E.ti.get t with
  | none => rw [hg] at hi; cases hi
  | some i =>
    rw [hg] at hi h
    have hi : (i.size, i.desc) = (sz, .array m e) := Option.some.inj hi
    simp only [Prod.mk.injEq] at hi
    obtain ⟨h1, h2⟩ := hi
    simp only [h2] at h
    obtain ⟨h3, g, h4, h5⟩ := h
    rw [h4] at he
    have he : g.size = w := Option.some.inj he
    subst he
    exact ⟨h3.trans h1, h5⟩
theorem arg_pair {n : Nat} {q : List PV} (h : Sh sE0 (n + 2) 52 q) : ∃ x y, q = [.int .i64 x, .int .i64 y] := by
  obtain ⟨h1, h2⟩ := Sh.array (sz := 2) (w := 1) (m := 2) (e := 3) (by kernel_rfl) (by kernel_rfl) h
  match q, h1 with
  | [a, b], _ =>
    obtain ⟨x, h3, _⟩ := Sh.int (k := .i64) (by kernel_rfl) (h2 0 (by decide))
    obtain ⟨y, h4, _⟩ := Sh.int (k := .i64) (by kernel_rfl) (h2 1 (by decide))
    have h3 : [a] = [.int .i64 x] := h3
    have h4 : [b] = [.int .i64 y] := h4
    cases h3; cases h4
    exact ⟨x, y, rfl⟩
theorem stemLess_main (r : Tr (List Value × TypeId)) (qs : List (List PV)) (h : Shs (sE .nil) 9 Tryz.f5.params.toList qs) : VP (sE r) 5 (argAVs (sE .nil) Tryz.f5.params.toList qs) (.p (.bool true)) := by
  have e : Tryz.f5.params.toList = [27, 52] := rfl
  rw [e] at h ⊢
  match qs, h with
  | [q1, q2], h =>
    obtain ⟨s, h1, hs, hf⟩ := arg_stem (n := 4) h.1
    obtain ⟨x, y, rfl⟩ := arg_pair (n := 7) h.2.1
    have e2 : argAVs (sE .nil) [27, 52] [q1, [.int .i64 x, .int .i64 y]] = [.agg (q1.map .p), .agg [iv x, iv y]] := by
      show [argAV _ _ _, argAV _ _ _] = _
      unfold argAV
      rw [show aggT (sE .nil) 27 = true by kernel_rfl, show aggT (sE .nil) 52 = true by kernel_rfl]; rfl
    rw [e2]
    exact VP.imp (stemLess_law hs hf) ⟨AImp.aggP h1, AImp.refl _, trivial⟩
theorem s_own : ownKnob Tryz.checked.prog.godebug = none := by kernel_rfl
theorem stemLess_lifted (os : Os) (started : os.Started) (H : Type) (enc : TypeId × Value → H) :
    ReturnsInHanded {} Tryz.checked os 5 .any (Rows.stemLessSpec.pre6 enc Tryz.checked.prog Tryz.f5 [] false) (Rows.stemLessSpec.post enc Tryz.checked.prog Tryz.f5 false Rows.stemLessRow.fresh Rows.stemLessRow.handsOn Rows.stemLessRow.again) := by
  refine law_handed (E := sE .nil) (m := 9) (tb := 4) s_own started (by kernel_rfl) (by kernel_rfl)
    (ChangeSpec.witness6 (enc := enc) (C := Tryz.checked) false ⟨#[], #[.agg #[.slice none 0 0, .int .i64 0, .int .i64 0, .int .i64 0, .int .i64 0, .slice none 0 0], .agg #[.int .i64 0, .int .i64 0]], []⟩ 20 (by kernel_rfl) (by kernel_rfl) (by kernel_rfl) (by kernel_rfl))
    (of_decide_eq_true (by kernel_rfl)) (fun r => sH_ok r) (by kernel_rfl) (by kernel_rfl) (by kernel_rfl) (by kernel_rfl) (by kernel_rfl) rfl ?_ stemLess_main
  intro ds hds
  have : ds.length = 2 := hds
  match ds, this with
  | [d1, d2], _ => exact ⟨rfl, rfl, rfl⟩
theorem stemLess_holds : Rows.StemLessSaid :=
  OpenClaim.holds_of_wide 5 Tryz.f5 rfl rfl rfl rfl rfl rfl rfl ⟨rfl, rfl, rfl, rfl, rfl⟩ rfl rfl rfl rfl rfl (by kernel_rfl) (by kernel_rfl) (by kernel_rfl)
    (of_decide_eq_true (by kernel_rfl)) (by unfold Func.isWrapper; first | (rw [if_pos (by decide +kernel)]; kernel_rfl) | (rw [if_neg (by decide +kernel)]; exact ⟨rfl, rfl⟩))
    (fun os started H enc _ => stemLess_lifted os started H enc)
end Go.Proofs.YtncpeobcgmkkbaaGreat
