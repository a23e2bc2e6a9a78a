/- The program's ChestAlone returns true for all numbers and days without an exception and without changing its arguments: a part of the proof. -/
import Derived.Test.YtbieflpgjmgaiaaVs
import Derived.Test.YtbieflpgjmgaiaaVe
import Derived.Test.YtbieflpgjmgaiaaRows
import Derived.Test.YtbieflpgjmgaiaaVo
import Derived.JoinedOf
set_option linter.all false
/- The law ChestAlone holds of what arguments look like. -/
set_option maxRecDepth 100000
namespace Go.Proofs.Ytbieflpgjmgaiaa
open Go.ChangeShapes Go.WideShapes Go.RowKit
noncomputable abbrev sE0 : Env := sE (.nil, true)
theorem arg_int {n : Nat} {q : List PV} (h : Sh sE0 (n + 1) 3 q) : ∃ x, q = [.int .i64 x] ∧ inR x := by
  obtain ⟨x, h, h2, h3⟩ := Sh.int (k := .i64) (by kernel_rfl) h
  have e1 : IntKind.i64.min = -9223372036854775808 := by decide
  have e2 : IntKind.i64.max = 9223372036854775807 := by decide
  refine ⟨x, h, ?_⟩
  unfold inR
  omega
theorem Sh.array {E : Env} {n : Nat} {t : TypeId} {qs : List PV} {sz w m : Nat} {e : TypeId} (hi : (E.ti.get t).map (fun i => (i.size, i.desc)) = some (sz, .array m e)) (he : (E.ti.get e).map (·.size) = some w) (h : Sh E (n + 1) t qs) : qs.length = sz ∧ ∀ k, k < m → Sh E n e ((qs.drop (k * w)).take w) := by
  unfold Sh at h
  cases hg : E.ti.get t with
  | none => rw [hg] at hi; cases hi
  | some i =>
    rw [hg] at hi h
    have hi : (i.size, i.desc) = (sz, .array m e) := Option.some.inj hi
    simp only [Prod.mk.injEq] at hi
    obtain ⟨h1, h2⟩ := hi
    simp only [h2] at h
    obtain ⟨h3, g, h4, h5⟩ := h
    rw [h4] at he
    have he : g.size = w := Option.some.inj he
    subst he
    exact ⟨h3.trans h1, h5⟩
theorem arg_raw {n : Nat} {q : List PV} (h : Sh sE0 (n + 2) 50 q) : ∃ o : Raw, q = eRaw o ∧ inR o.a7 := by
  obtain ⟨h1, h2⟩ := Sh.array (sz := 8) (w := 1) (m := 8) (e := 3) (by kernel_rfl) (by kernel_rfl) h
  match q, h1 with
  | [a, b, c, d, e, f, g, i], _ =>
    obtain ⟨x0, k0, _⟩ := arg_int (h2 0 (by decide))
    obtain ⟨x1, k1, _⟩ := arg_int (h2 1 (by decide))
    obtain ⟨x2, k2, _⟩ := arg_int (h2 2 (by decide))
    obtain ⟨x3, k3, _⟩ := arg_int (h2 3 (by decide))
    obtain ⟨x4, k4, _⟩ := arg_int (h2 4 (by decide))
    obtain ⟨x5, k5, _⟩ := arg_int (h2 5 (by decide))
    obtain ⟨x6, k6, _⟩ := arg_int (h2 6 (by decide))
    obtain ⟨x7, k7, m7⟩ := arg_int (h2 7 (by decide))
    have k0 : [a] = _ := k0
    have k1 : [b] = _ := k1
    have k2 : [c] = _ := k2
    have k3 : [d] = _ := k3
    have k4 : [e] = _ := k4
    have k5 : [f] = _ := k5
    have k6 : [g] = _ := k6
    have k7 : [i] = _ := k7
    cases k0; cases k1; cases k2; cases k3; cases k4; cases k5; cases k6; cases k7
    exact ⟨⟨x0, x1, x2, x3, x4, x5, x6, x7⟩, rfl, m7⟩
theorem arg_raws {n : Nat} {q : List PV} (h : Sh sE0 (n + 3) 22 q) : ∃ (b : Bool) (l : List Raw), PImps q [eRaws b l] ∧ l.length < 9223372036854775808 ∧ ∀ k, k < l.length → inR (l.getD k default).a7 := by
  obtain ⟨nb, m, f, rfl, h1, h2, h3⟩ := Sh.slice (e := 50) (by kernel_rfl) h
  obtain ⟨l, rfl, h4⟩ := list_of (default : Raw) (P := fun k o => f k = eRaw o ∧ inR o.a7) fun k hk => arg_raw (h3 k hk)
  exact ⟨nb, l, ⟨PImp.lst fun k hk => by rw [(h4 k hk).1]; exact ⟨PImp.refl _, PImp.refl _, PImp.refl _, PImp.refl _, PImp.refl _, PImp.refl _, PImp.refl _, PImp.refl _, trivial⟩, trivial⟩, h2, fun k hk => (h4 k hk).2⟩
theorem Shs.two {E : Env} {n : Nat} {a b : TypeId} : ∀ {qs : List (List PV)}, Shs E n [a, b] qs → ∃ q1 q2, qs = [q1, q2] ∧ Sh E n a q1 ∧ Sh E n b q2
  | [], h => h.elim
  | [_], h => h.2.elim
  | [q1, q2], h => ⟨q1, q2, rfl, h.1, h.2.1⟩
  | _ :: _ :: _ :: _, h => h.2.2.elim
theorem PImps.one {q : List PV} {p0 : PV} : PImps q [p0] → ∃ p, q = [p] ∧ PImp p p0 := match q with
  | [] => fun h => h.elim
  | [p] => fun h => ⟨p, rfl, h.1⟩
  | _ :: _ :: _ => fun h => h.2.elim
theorem alone_main (r : Tr (List Value × TypeId)) (qs : List (List PV)) (h : Shs sE0 9 Try.f3.params.toList qs) : VP (sE (r, true)) 3 (argAVs sE0 Try.f3.params.toList qs) (.p (.bool true)) := by
  have e : Try.f3.params.toList = [22, 3] := rfl
  rw [e] at h ⊢
  obtain ⟨q1, q2, rfl, g1, g2⟩ := Shs.two h
  obtain ⟨b, l, h1, hn, hq⟩ := arg_raws (n := 6) g1
  obtain ⟨x, rfl, _⟩ := arg_int (n := 8) g2
  obtain ⟨p, rfl, h9⟩ := PImps.one h1
  · · have e2 : argAVs sE0 [22, 3] [[p], [.int .i64 x]] = [.p p, iv x] := by
        show [argAV _ _ _, argAV _ _ _] = _
        unfold argAV
        rw [show aggT sE0 22 = false by kernel_rfl, show aggT sE0 3 = false by kernel_rfl]; rfl
      rw [e2]
      exact VP.imp (chestAlone_law (b := b) hn hq) ⟨PImp.toA h9, AImp.refl _, trivial⟩
theorem s_own : ownKnob Try.checked.prog.godebug = none := by kernel_rfl
theorem alone_lifted (os : Os) (started : os.Started) (H : Type) (enc : TypeId × Value → H) :
    ReturnsInHanded {} Try.checked os 3 .any (Rows.chestAloneSpec.pre6 enc Try.checked.prog Try.f3 [] false) (Rows.chestAloneSpec.post enc Try.checked.prog Try.f3 false Rows.chestAloneRow.fresh Rows.chestAloneRow.handsOn Rows.chestAloneRow.again) := by
  refine law_handed (E := sE0) (m := 9) (tb := 4) s_own started (by kernel_rfl) (by kernel_rfl)
    (ChangeSpec.witness6 (enc := enc) (C := Try.checked) false ⟨#[], #[.slice none 0 0, .int .i64 0], []⟩ 20 (by kernel_rfl) (by kernel_rfl) (by kernel_rfl) (by kernel_rfl))
    (of_decide_eq_true (by kernel_rfl)) (fun r => sH_ok (r, true)) (by kernel_rfl) (by kernel_rfl) (by kernel_rfl) (by kernel_rfl) (by kernel_rfl) rfl ?_ alone_main
  intro ds hds
  have : ds.length = 2 := hds
  match ds, this with
  | [d1, d2], _ => exact ⟨rfl, rfl, rfl⟩
theorem alone_holds : Rows.ChestAloneSaid :=
  OpenClaim.holds_of_wide 3 Try.f3 rfl rfl rfl rfl rfl rfl rfl ⟨rfl, rfl, rfl, rfl, rfl⟩ rfl rfl rfl rfl rfl (by kernel_rfl) (by kernel_rfl) (by kernel_rfl)
    (of_decide_eq_true (by kernel_rfl)) (by unfold Func.isWrapper; first | (rw [if_pos (by decide +kernel)]; kernel_rfl) | (rw [if_neg (by decide +kernel)]; exact ⟨rfl, rfl⟩))
    (fun os started H enc _ => alone_lifted os started H enc)
end Go.Proofs.Ytbieflpgjmgaiaa
