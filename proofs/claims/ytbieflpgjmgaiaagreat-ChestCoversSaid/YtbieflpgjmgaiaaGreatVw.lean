/- The program's ChestCovers returns true for all numbers without an exception and without changing its arguments: a part of the proof. -/
import Derived.Test.YtbieflpgjmgaiaaGreatVu
import Derived.Test.YtbieflpgjmgaiaaGreatVt
set_option linter.all false
/- Numbers that determine openings, as arguments. -/
set_option maxRecDepth 100000
namespace Go.Proofs.YtbieflpgjmgaiaaGreat
theorem arg_intR {n : Nat} {q : List PV} (h : Sh sE0 (n + 1) 3 q) : ∃ x, q = [.int .i64 x] ∧ inR x := by
  obtain ⟨x, h, h2, h3⟩ := Sh.int (k := .i64) (by kernel_rfl) h
  have e1 : IntKind.i64.min = -9223372036854775808 := by decide
  have e2 : IntKind.i64.max = 9223372036854775807 := by decide
  refine ⟨x, h, ?_⟩
  unfold inR
  omega
theorem arg_raw {n : Nat} {q : List PV} (h : Sh sE0 (n + 2) 101 q) : ∃ o : Raw, q = eRaw o ∧ inR o.a7 := by
  obtain ⟨h1, h2⟩ := Sh.array (sz := 8) (w := 1) (m := 8) (e := 3) (by kernel_rfl) (by kernel_rfl) h
  match q, h1 with
  | [a, b, c, d, e, f, g, i], _ =>
    obtain ⟨x0, k0, _⟩ := arg_intR (h2 0 (by decide))
    obtain ⟨x1, k1, _⟩ := arg_intR (h2 1 (by decide))
    obtain ⟨x2, k2, _⟩ := arg_intR (h2 2 (by decide))
    obtain ⟨x3, k3, _⟩ := arg_intR (h2 3 (by decide))
    obtain ⟨x4, k4, _⟩ := arg_intR (h2 4 (by decide))
    obtain ⟨x5, k5, _⟩ := arg_intR (h2 5 (by decide))
    obtain ⟨x6, k6, _⟩ := arg_intR (h2 6 (by decide))
    obtain ⟨x7, k7, m7⟩ := arg_intR (h2 7 (by decide))
    have k0 : [a] = _ := k0
    have k1 : [b] = _ := k1
    have k2 : [c] = _ := k2
    have k3 : [d] = _ := k3
    have k4 : [e] = _ := k4
    have k5 : [f] = _ := k5
    have k6 : [g] = _ := k6
    have k7 : [i] = _ := k7
    cases k0; cases k1; cases k2; cases k3; cases k4; cases k5; cases k6; cases k7
    exact ⟨⟨x0, x1, x2, x3, x4, x5, x6, x7⟩, rfl, m7⟩
theorem arg_raws {n : Nat} {q : List PV} (h : Sh sE0 (n + 3) 39 q) : ∃ (b : Bool) (l : List Raw), PImps q [eRaws b l] ∧ l.length < 9223372036854775808 ∧ ∀ k, k < l.length → inR (l.getD k default).a7 := by
  obtain ⟨nb, m, f, rfl, h1, h2, h3⟩ := Sh.slice (e := 101) (by kernel_rfl) h
  obtain ⟨l, rfl, h4⟩ := list_of (default : Raw) (P := fun k o => f k = eRaw o ∧ inR o.a7) fun k hk => arg_raw (h3 k hk)
  exact ⟨nb, l, ⟨PImp.lst fun k hk => by rw [(h4 k hk).1]; exact ⟨PImp.refl _, PImp.refl _, PImp.refl _, PImp.refl _, PImp.refl _, PImp.refl _, PImp.refl _, PImp.refl _, trivial⟩, trivial⟩, h2, fun k hk => (h4 k hk).2⟩
theorem Shs.two {E : Env} {n : Nat} {a b : TypeId} : ∀ {qs : List (List PV)}, Shs E n [a, b] qs → ∃ q1 q2, qs = [q1, q2] ∧ Sh E n a q1 ∧ Sh E n b q2
  | [], h => h.elim
  | [_], h => h.2.elim
  | [q1, q2], h => ⟨q1, q2, rfl, h.1, h.2.1⟩
  | _ :: _ :: _ :: _, h => h.2.2.elim
theorem PImps.one {q : List PV} {p0 : PV} : PImps q [p0] → ∃ p, q = [p] ∧ PImp p p0 := match q with
  | [] => fun h => h.elim
  | [p] => fun h => ⟨p, rfl, h.1⟩
  | _ :: _ :: _ => fun h => h.2.elim
end Go.Proofs.YtbieflpgjmgaiaaGreat
