/- The program's ChestTruths returns true for all openings, numbers and days, valid or not, without an exception and without changing its arguments: a part of the proof. -/
import Derived.Test.YtbieflpgjmgaiaaGreatVp
import Derived.Test.YtbieflpgjmgaiaaGreatVe
set_option linter.all false
/- Openings as arguments. -/
set_option maxRecDepth 100000
namespace Go.Proofs.YtbieflpgjmgaiaaGreat
noncomputable abbrev sE0 : Env := sE (.nil, true)
theorem arg_ints {n : Nat} {q : List PV} (h : Sh sE0 (n + 2) 32 q) : ∃ b l, PImps q [eInts b l] ∧ (b = true → l = []) ∧ l.length < 9223372036854775808 := by
  obtain ⟨nb, m, f, rfl, h1, h2, h3⟩ := Sh.slice (e := 3) (by kernel_rfl) h
  obtain ⟨l, rfl, h4⟩ := list_of (0 : Int) (P := fun k x => f k = [.int .i64 x]) fun k hk => let ⟨x, h, _⟩ := Sh.int (k := .i64) (by kernel_rfl) (h3 k hk); ⟨x, h⟩
  exact ⟨nb, l, ⟨PImp.lst fun k hk => by rw [h4 k hk]; exact ⟨PImp.refl _, trivial⟩, trivial⟩, fun h => List.length_eq_zero_iff.1 (h1 h), h2⟩
theorem arg_int {n : Nat} {q : List PV} (h : Sh sE0 (n + 1) 3 q) : ∃ x, q = [.int .i64 x] := let ⟨x, h, _⟩ := Sh.int (k := .i64) (by kernel_rfl) h; ⟨x, h⟩
theorem arg_opn {n : Nat} {q : List PV} (h : Sh sE0 (n + 3) 45 q) : ∃ o : Opn, PImps q (eOpn o) ∧ SzW o := by
  obtain ⟨h1, h2⟩ := Sh.struct (sz := 9) (l := [(3, 0), (3, 1), (3, 2), (3, 3), (3, 4), (32, 5), (32, 6), (3, 7), (3, 8)]) (by kernel_rfl) h
  match q, h1 with
  | [a, b, c, d, e, f, g, i, j], _ =>
    obtain ⟨x0, k0⟩ := arg_int (h2 (3, 0) (by simp) 1 (by kernel_rfl))
    obtain ⟨x1, k1⟩ := arg_int (h2 (3, 1) (by simp) 1 (by kernel_rfl))
    obtain ⟨x2, k2⟩ := arg_int (h2 (3, 2) (by simp) 1 (by kernel_rfl))
    obtain ⟨x3, k3⟩ := arg_int (h2 (3, 3) (by simp) 1 (by kernel_rfl))
    obtain ⟨x4, k4⟩ := arg_int (h2 (3, 4) (by simp) 1 (by kernel_rfl))
    obtain ⟨ib, il, k5, _, m5⟩ := arg_ints (h2 (32, 5) (by simp) 1 (by kernel_rfl))
    obtain ⟨ob, ol, k6, _, m6⟩ := arg_ints (h2 (32, 6) (by simp) 1 (by kernel_rfl))
    obtain ⟨x7, k7⟩ := arg_int (h2 (3, 7) (by simp) 1 (by kernel_rfl))
    obtain ⟨x8, k8⟩ := arg_int (h2 (3, 8) (by simp) 1 (by kernel_rfl))
    have k0 : [a] = _ := k0
    have k1 : [b] = _ := k1
    have k2 : [c] = _ := k2
    have k3 : [d] = _ := k3
    have k4 : [e] = _ := k4
    have k5 : PImps [f] _ := k5
    have k6 : PImps [g] _ := k6
    have k7 : [i] = _ := k7
    have k8 : [j] = _ := k8
    cases k0; cases k1; cases k2; cases k3; cases k4; cases k7; cases k8
    exact ⟨{ source := x0, register := x1, day := x2, through := x3, lawful := x4, inn := il, inB := ib, out := ol, outB := ob, known := x7, until_ := x8 },
      ⟨PImp.refl _, PImp.refl _, PImp.refl _, PImp.refl _, PImp.refl _, k5.1, k6.1, PImp.refl _, PImp.refl _, trivial⟩, ⟨m5, m6⟩⟩
theorem arg_opns {n : Nat} {q : List PV} (h : Sh sE0 (n + 4) 22 q) : ∃ (b : Bool) (l : List Opn), PImps q [eOpns b l] ∧ SzsW l := by
  obtain ⟨nb, m, f, rfl, h1, h2, h3⟩ := Sh.slice (e := 45) (by kernel_rfl) h
  obtain ⟨l, rfl, h4⟩ := list_of (default : Opn) (P := fun k o => PImps (f k) (eOpn o) ∧ SzW o) fun k hk => arg_opn (h3 k hk)
  exact ⟨nb, l, ⟨PImp.lst fun k hk => (h4 k hk).1, trivial⟩, ⟨h2, fun k hk => (h4 k hk).2⟩⟩
theorem Sh.array {E : Env} {n : Nat} {t : TypeId} {qs : List PV} {sz w m : Nat} {e : TypeId} (hi : (E.ti.get t).map (fun i => (i.size, i.desc)) = some (sz, .array m e)) (he : (E.ti.get e).map (·.size) = some w) (h : Sh E (n + 1) t qs) : qs.length = sz ∧ ∀ k, k < m → Sh E n e ((qs.drop (k * w)).take w) := by
  unfold Sh at h
  cases hg : E.ti.get t with
  | none => rw [hg] at hi; cases hi
  | some i =>
    rw [hg] at hi h
    have hi : (i.size, i.desc) = (sz, .array m e) := Option.some.inj hi
    simp only [Prod.mk.injEq] at hi
    obtain ⟨h1, h2⟩ := hi
    simp only [h2] at h
    obtain ⟨h3, g, h4, h5⟩ := h
    rw [h4] at he
    have he : g.size = w := Option.some.inj he
    subst he
    exact ⟨h3.trans h1, h5⟩
theorem arg_pair {n : Nat} {q : List PV} (h : Sh sE0 (n + 2) 23 q) : ∃ x y, q = [.int .i64 x, .int .i64 y] := by
  obtain ⟨h1, h2⟩ := Sh.array (sz := 2) (w := 1) (m := 2) (e := 3) (by kernel_rfl) (by kernel_rfl) h
  match q, h1 with
  | [a, b], _ =>
    obtain ⟨x, h3⟩ := arg_int (h2 0 (by decide))
    obtain ⟨y, h4⟩ := arg_int (h2 1 (by decide))
    have h3 : [a] = [.int .i64 x] := h3
    have h4 : [b] = [.int .i64 y] := h4
    cases h3; cases h4
    exact ⟨x, y, rfl⟩
end Go.Proofs.YtbieflpgjmgaiaaGreat
