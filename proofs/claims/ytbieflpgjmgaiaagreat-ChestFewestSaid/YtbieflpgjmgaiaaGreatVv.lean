/- The program's ChestFewest returns true for all openings, days, sources and pairs, valid or not, without an exception and without changing its arguments: a part of the proof. -/
import Derived.Test.YtbieflpgjmgaiaaGreatVu
import Derived.Test.YtbieflpgjmgaiaaGreatVt
import Derived.Test.YtbieflpgjmgaiaaGreatRows
import Derived.Test.YtbieflpgjmgaiaaGreatVo
import Derived.JoinedOf
set_option linter.all false
/- The law ChestFewest holds of what arguments look like. -/
set_option maxRecDepth 100000
namespace Go.Proofs.YtbieflpgjmgaiaaGreat
open Go.ChangeShapes Go.WideShapes Go.RowKit
theorem arg_pairZ {n : Nat} {q : List PV} (h : Sh sE0 (n + 2) 69 q) : ∃ p : Int × Int, q = [.int .i64 p.1, .int .i64 p.2] := by
  obtain ⟨h1, h2⟩ := Sh.struct (sz := 2) (l := [(3, 0), (3, 1)]) (by kernel_rfl) h
  match q, h1 with
  | [a, b], _ =>
    obtain ⟨x, h3⟩ := arg_int (h2 (3, 0) (by simp) 1 (by kernel_rfl))
    obtain ⟨y, h4⟩ := arg_int (h2 (3, 1) (by simp) 1 (by kernel_rfl))
    have h3 : [a] = [.int .i64 x] := h3
    have h4 : [b] = [.int .i64 y] := h4
    cases h3; cases h4
    exact ⟨(x, y), rfl⟩
theorem arg_pairs {n : Nat} {q : List PV} (h : Sh sE0 (n + 3) 51 q) : ∃ (b : Bool) (l : List (Int × Int)), PImps q [eZs b l] ∧ l.length < 9223372036854775808 := by
  obtain ⟨nb, m, f, rfl, h1, h2, h3⟩ := Sh.slice (e := 69) (by kernel_rfl) h
  obtain ⟨l, rfl, h4⟩ := list_of ((0, 0) : Int × Int) (P := fun k p => f k = [.int .i64 p.1, .int .i64 p.2]) fun k hk => arg_pairZ (h3 k hk)
  exact ⟨nb, l, ⟨PImp.lst fun k hk => by rw [h4 k hk]; exact ⟨PImp.refl _, PImp.refl _, trivial⟩, trivial⟩, h2⟩
theorem arg_shown {n : Nat} {q : List PV} (h : Sh sE0 (n + 4) 53 q) : ∃ (sb pb : Bool) (s : List Int) (P : List (Int × Int)), PImps q [eInts sb s, eZs pb P] ∧ s.length < 9223372036854775808 ∧ P.length < 9223372036854775808 := by
  obtain ⟨h1, h2⟩ := Sh.struct (sz := 2) (l := [(32, 0), (51, 1)]) (by kernel_rfl) h
  match q, h1 with
  | [a, b], _ =>
    obtain ⟨sb, s, h3, _, h4⟩ := arg_ints (h2 (32, 0) (by simp) 1 (by kernel_rfl))
    obtain ⟨pb, P, h5, h6⟩ := arg_pairs (h2 (51, 1) (by simp) 1 (by kernel_rfl))
    have h3 : PImps [a] _ := h3
    have h5 : PImps [b] _ := h5
    exact ⟨sb, pb, s, P, ⟨h3.1, h5.1, trivial⟩, h4, h6⟩
theorem Shs.three {E : Env} {n : Nat} {a b c : TypeId} : ∀ {qs : List (List PV)}, Shs E n [a, b, c] qs → ∃ q1 q2 q3, qs = [q1, q2, q3] ∧ Sh E n a q1 ∧ Sh E n b q2 ∧ Sh E n c q3
  | [], h => h.elim
  | [_], h => h.2.elim
  | [_, _], h => h.2.2.elim
  | [q1, q2, q3], h => ⟨q1, q2, q3, rfl, h.1, h.2.1, h.2.2.1⟩
  | _ :: _ :: _ :: _ :: _, h => h.2.2.2.elim
theorem PImps.one {q : List PV} {p0 : PV} : PImps q [p0] → ∃ p, q = [p] ∧ PImp p p0 := match q with
  | [] => fun h => h.elim
  | [p] => fun h => ⟨p, rfl, h.1⟩
  | _ :: _ :: _ => fun h => h.2.elim
theorem PImps.two {q : List PV} {p0 p1 : PV} : PImps q [p0, p1] → ∃ a b, q = [a, b] ∧ PImp a p0 ∧ PImp b p1 := match q with
  | [] => fun h => h.elim
  | [p] => fun h => h.2.elim
  | [a, b] => fun h => ⟨a, b, rfl, h.1, h.2.1⟩
  | _ :: _ :: _ :: _ => fun h => h.2.2.elim
theorem fewest_main (r : Tr (List Value × TypeId)) (qs : List (List PV)) (h : Shs sE0 9 Tryz.f6.params.toList qs) : VP (sE (r, true)) 6 (argAVs sE0 Tryz.f6.params.toList qs) (.p (.bool true)) := by
  have e : Tryz.f6.params.toList = [22, 3, 53] := rfl
  rw [e] at h ⊢
  obtain ⟨q1, q2, q3, rfl, g1, g2, g3⟩ := Shs.three h
  obtain ⟨b, l, h1, hz⟩ := arg_opns (n := 5) g1
  obtain ⟨x, rfl⟩ := arg_int (n := 8) g2
  obtain ⟨sb, pb, s, P, h3, hs, hP⟩ := arg_shown (n := 5) g3
  obtain ⟨p, rfl, k1⟩ := PImps.one h1
  obtain ⟨p2, p3, rfl, k2, k3⟩ := PImps.two h3
  have e2 : argAVs sE0 [22, 3, 53] [[p], [.int .i64 x], [p2, p3]] = [.p p, iv x, .agg [.p p2, .p p3]] := by
    show [argAV _ _ _, argAV _ _ _, argAV _ _ _] = _
    unfold argAV
    rw [show aggT sE0 22 = false by kernel_rfl, show aggT sE0 3 = false by kernel_rfl, show aggT sE0 53 = true by kernel_rfl]; rfl
  rw [e2]
  exact VP.imp (chestFewest_law (b := b) (sb := sb) (pb := pb) hz hs hP) ⟨PImp.toA k1, AImp.refl _, AImp.agg ⟨PImp.toA k2, PImp.toA k3, trivial⟩, trivial⟩
theorem s_own : ownKnob Tryz.checked.prog.godebug = none := by kernel_rfl
theorem fewest_lifted (os : Os) (started : os.Started) (H : Type) (enc : TypeId × Value → H) :
    ReturnsInHanded {} Tryz.checked os 6 .any (Rows.chestFewestSpec.pre6 enc Tryz.checked.prog Tryz.f6 [] false) (Rows.chestFewestSpec.post enc Tryz.checked.prog Tryz.f6 false Rows.chestFewestRow.fresh Rows.chestFewestRow.handsOn Rows.chestFewestRow.again) := by
  refine law_handed (E := sE0) (m := 9) (tb := 4) s_own started (by kernel_rfl) (by kernel_rfl)
    (ChangeSpec.witness6 (enc := enc) (C := Tryz.checked) false ⟨#[], #[.slice none 0 0, .int .i64 0, .agg #[.slice none 0 0, .slice none 0 0]], []⟩ 20 (by kernel_rfl) (by kernel_rfl) (by kernel_rfl) (by kernel_rfl))
    (of_decide_eq_true (by kernel_rfl)) (fun r => sH_ok (r, true)) (by kernel_rfl) (by kernel_rfl) (by kernel_rfl) (by kernel_rfl) (by kernel_rfl) rfl ?_ fewest_main
  intro ds hds
  have : ds.length = 3 := hds
  match ds, this with
  | [d1, d2, d3], _ => exact ⟨rfl, rfl, rfl⟩
theorem fewest_holds : Rows.ChestFewestSaid :=
  OpenClaim.holds_of_wide 6 Tryz.f6 rfl rfl rfl rfl rfl rfl rfl ⟨rfl, rfl, rfl, rfl, rfl⟩ rfl rfl rfl rfl rfl (by kernel_rfl) (by kernel_rfl) (by kernel_rfl)
    (of_decide_eq_true (by kernel_rfl)) (by unfold Func.isWrapper; first | (rw [if_pos (by decide +kernel)]; kernel_rfl) | (rw [if_neg (by decide +kernel)]; exact ⟨rfl, rfl⟩))
    (fun os started H enc _ => fewest_lifted os started H enc)
end Go.Proofs.YtbieflpgjmgaiaaGreat
