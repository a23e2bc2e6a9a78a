/- The program's StemChecks returns true for every stem and every ones, valid or not, without an exception and without changing its arguments: a part of the proof. -/
import Derived.Test.YtncpeobcgmkkbaaGreatVl
import Derived.Test.YtncpeobcgmkkbaaGreatVd
set_option linter.all false
/- Stems as arguments. -/
set_option maxRecDepth 100000
namespace Go.Proofs.YtncpeobcgmkkbaaGreat
noncomputable abbrev sE0 : Env := sE .nil
theorem arg_ints {n : Nat} {q : List PV} (h : Sh sE0 (n + 2) 28 q) : ∃ b l, PImps q [eInts b l] ∧ (b = true → l = []) ∧ l.length < 9223372036854775808 := by
  obtain ⟨nb, m, f, rfl, h1, h2, h3⟩ := Sh.slice (e := 3) (by kernel_rfl) h
  obtain ⟨l, rfl, h4⟩ := list_of (0 : Int) (P := fun k x => f k = [.int .i64 x]) fun k hk => let ⟨x, h, _⟩ := Sh.int (k := .i64) (by kernel_rfl) (h3 k hk); ⟨x, h⟩
  exact ⟨nb, l, ⟨PImp.lst fun k hk => by rw [h4 k hk]; exact ⟨PImp.refl _, trivial⟩, trivial⟩, fun h => List.length_eq_zero_iff.1 (h1 h), h2⟩
theorem arg_copy {n : Nat} {q : List PV} (h : Sh sE0 (n + 3) 44 q) : ∃ c : Copy, PImps q (eCopy c) ∧ (c.wn = true → c.words = []) ∧ c.words.length < 9223372036854775808 := by
  obtain ⟨h1, h2⟩ := Sh.struct (sz := 2) (l := [(3, 0), (28, 1)]) (by kernel_rfl) h
  match q, h1 with
  | [a, b], _ =>
    obtain ⟨x, h3, _⟩ := Sh.int (k := .i64) (by kernel_rfl) (h2 (3, 0) (by simp) 1 (by kernel_rfl))
    obtain ⟨wn, l, h4, h5, h6⟩ := arg_ints (h2 (28, 1) (by simp) 1 (by kernel_rfl))
    have h3 : [a] = [.int .i64 x] := h3
    cases h3
    exact ⟨⟨x, l, wn⟩, ⟨PImp.refl _, h4⟩, h5, h6⟩
theorem arg_never {n : Nat} {q : List PV} (h : Sh sE0 (n + 2) 57 q) : ∃ c : Never, q = eNever c := by
  obtain ⟨h1, h2⟩ := Sh.struct (sz := 2) (l := [(3, 0), (3, 1)]) (by kernel_rfl) h
  match q, h1 with
  | [a, b], _ =>
    obtain ⟨x, h3, _⟩ := Sh.int (k := .i64) (by kernel_rfl) (h2 (3, 0) (by simp) 1 (by kernel_rfl))
    obtain ⟨y, h4, _⟩ := Sh.int (k := .i64) (by kernel_rfl) (h2 (3, 1) (by simp) 1 (by kernel_rfl))
    have h3 : [a] = [.int .i64 x] := h3
    have h4 : [b] = [.int .i64 y] := h4
    cases h3; cases h4
    exact ⟨⟨x, y⟩, rfl⟩
theorem arg_costs {n : Nat} {q : List PV} (h : Sh sE0 (n + 2) 24 q) : ∃ c : Costs, q = eCosts c := by
  obtain ⟨h1, h2⟩ := Sh.struct (sz := 4) (l := [(3, 0), (3, 1), (3, 2), (3, 3)]) (by kernel_rfl) h
  match q, h1 with
  | [a, b, c, d], _ =>
    obtain ⟨x, h3, _⟩ := Sh.int (k := .i64) (by kernel_rfl) (h2 (3, 0) (by simp) 1 (by kernel_rfl))
    obtain ⟨y, h4, _⟩ := Sh.int (k := .i64) (by kernel_rfl) (h2 (3, 1) (by simp) 1 (by kernel_rfl))
    obtain ⟨z, h5, _⟩ := Sh.int (k := .i64) (by kernel_rfl) (h2 (3, 2) (by simp) 1 (by kernel_rfl))
    obtain ⟨w, h6, _⟩ := Sh.int (k := .i64) (by kernel_rfl) (h2 (3, 3) (by simp) 1 (by kernel_rfl))
    have h3 : [a] = [.int .i64 x] := h3
    have h4 : [b] = [.int .i64 y] := h4
    have h5 : [c] = [.int .i64 z] := h5
    have h6 : [d] = [.int .i64 w] := h6
    cases h3; cases h4; cases h5; cases h6
    exact ⟨⟨x, y, z, w⟩, rfl⟩
/-- What is nil is empty. -/
structure Stem.Flags (s : Stem) : Prop where
  c : s.cn = true → s.copies = []
  n : s.nn = true → s.never = []
  w : ∀ k, k < s.copies.length → (s.copies.getD k default).wn = true → (s.copies.getD k default).words = []
theorem arg_stem {n : Nat} {q : List PV} (h : Sh sE0 (n + 5) 27 q) : ∃ s : Stem, PImps q (eStem s) ∧ s.Ok ∧ s.Flags := by
  obtain ⟨h1, h2⟩ := Sh.struct (sz := 6) (l := [(22, 0), (24, 1), (25, 5)]) (by kernel_rfl) h
  match q, h1 with
  | [a, b, c, d, e, f], _ =>
    obtain ⟨cn, m, g, k1, k2, k3, k4⟩ := Sh.slice (e := 44) (by kernel_rfl) (h2 (22, 0) (by simp) 1 (by kernel_rfl))
    obtain ⟨co, k5⟩ := arg_costs (h2 (24, 1) (by simp) 4 (by kernel_rfl))
    obtain ⟨nn, m2, g2, k6, k7, k8, k9⟩ := Sh.slice (e := 57) (by kernel_rfl) (h2 (25, 5) (by simp) 1 (by kernel_rfl))
    have k1 : [a] = _ := k1
    have k5 : [b, c, d, e] = _ := k5
    have k6 : [f] = _ := k6
    cases k1; cases k5; cases k6
    obtain ⟨l, rfl, h4⟩ := list_of (default : Copy) (P := fun k c => PImps (g k) (eCopy c) ∧ (c.wn = true → c.words = []) ∧ c.words.length < 9223372036854775808) fun k hk => arg_copy (k4 k hk)
    obtain ⟨l2, rfl, h5⟩ := list_of (default : Never) (P := fun k c => g2 k = eNever c) fun k hk => arg_never (k9 k hk)
    refine ⟨⟨cn, l, co, nn, l2⟩, ⟨PImp.lst fun k hk => (h4 k hk).1, PImp.refl _, PImp.refl _, PImp.refl _, PImp.refl _, PImp.lst fun k hk => by rw [h5 k hk]; exact ⟨PImp.refl _, PImp.refl _, trivial⟩, trivial⟩, ⟨k3, fun k hk => (h4 k hk).2.2, k8⟩, ⟨fun h => List.length_eq_zero_iff.1 (k2 h), fun h => List.length_eq_zero_iff.1 (k7 h), fun k hk => (h4 k hk).2.1⟩⟩
theorem arg_one {n : Nat} {q : List PV} (h : Sh sE0 (n + 4) 46 q) : ∃ (c : Copy) (co : Costs) (id a b : Int), PImps q (eCopy c ++ (eCosts co ++ [.int .i64 id, .int .i64 a, .int .i64 b])) ∧ (c.wn = true → c.words = []) ∧ c.words.length < 9223372036854775808 := by
  obtain ⟨h1, h2⟩ := Sh.struct (sz := 9) (l := [(44, 0), (24, 2), (3, 6), (3, 7), (3, 8)]) (by kernel_rfl) h
  match q, h1 with
  | [a, b, c, d, e, f, g, i, j], _ =>
    obtain ⟨cp, k1, k2, k3⟩ := arg_copy (h2 (44, 0) (by simp) 2 (by kernel_rfl))
    obtain ⟨co, k5⟩ := arg_costs (h2 (24, 2) (by simp) 4 (by kernel_rfl))
    obtain ⟨x, h3, _⟩ := Sh.int (k := .i64) (by kernel_rfl) (h2 (3, 6) (by simp) 1 (by kernel_rfl))
    obtain ⟨y, h4, _⟩ := Sh.int (k := .i64) (by kernel_rfl) (h2 (3, 7) (by simp) 1 (by kernel_rfl))
    obtain ⟨z, h5, _⟩ := Sh.int (k := .i64) (by kernel_rfl) (h2 (3, 8) (by simp) 1 (by kernel_rfl))
    have k1 : PImps [a, b] _ := k1
    have k5 : [c, d, e, f] = _ := k5
    have h3 : [g] = [.int .i64 x] := h3
    have h4 : [i] = [.int .i64 y] := h4
    have h5 : [j] = [.int .i64 z] := h5
    cases h3; cases h4; cases h5; cases k5
    exact ⟨cp, co, x, y, z, ⟨k1.1, k1.2.1, PImp.refl _, PImp.refl _, PImp.refl _, PImp.refl _, PImp.refl _, PImp.refl _, PImp.refl _, trivial⟩, k2, k3⟩
end Go.Proofs.YtncpeobcgmkkbaaGreat
