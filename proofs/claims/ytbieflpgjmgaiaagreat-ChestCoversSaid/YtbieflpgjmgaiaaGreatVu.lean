/- The program's ChestCovers returns true for all numbers without an exception and without changing its arguments: a part of the proof. -/
import Derived.Test.YtbieflpgjmgaiaaGreatVp
import Derived.Test.YtbieflpgjmgaiaaGreatVe
import Derived.Test.YtbieflpgjmgaiaaGreatVr
set_option linter.all false
/- Openings as arguments. -/
set_option maxRecDepth 100000
namespace Go.Proofs.YtbieflpgjmgaiaaGreat
noncomputable abbrev sE0 : Env := sE (.nil, true)
theorem arg_int {n : Nat} {q : List PV} (h : Sh sE0 (n + 1) 3 q) : ∃ x, q = [.int .i64 x] := let ⟨x, h, _⟩ := Sh.int (k := .i64) (by kernel_rfl) h; ⟨x, h⟩
theorem Sh.array {E : Env} {n : Nat} {t : TypeId} {qs : List PV} {sz w m : Nat} {e : TypeId} (hi : (E.ti.get t).map (fun i => (i.size, i.desc)) = some (sz, .array m e)) (he : (E.ti.get e).map (·.size) = some w) (h : Sh E (n + 1) t qs) : qs.length = sz ∧ ∀ k, k < m → Sh E n e ((qs.drop (k * w)).take w) := by
  unfold Sh at h
  cases hg : E.ti.get t with
  | none => rw [hg] at hi; cases hi
  | some i =>
    rw [hg] at hi h
    have hi : (i.size, i.desc) = (sz, .array m e) := Option.some.inj hi
    simp only [Prod.mk.injEq] at hi
    obtain ⟨h1, h2⟩ := hi
    simp only [h2] at h
    obtain ⟨h3, g, h4, h5⟩ := h
    rw [h4] at he
    have he : g.size = w := Option.some.inj he
    subst he
    exact ⟨h3.trans h1, h5⟩
theorem arg_pair {n : Nat} {q : List PV} (h : Sh sE0 (n + 2) 23 q) : ∃ x y, q = [.int .i64 x, .int .i64 y] := by
  obtain ⟨h1, h2⟩ := Sh.array (sz := 2) (w := 1) (m := 2) (e := 3) (by kernel_rfl) (by kernel_rfl) h
  match q, h1 with
  | [a, b], _ =>
    obtain ⟨x, h3⟩ := arg_int (h2 0 (by decide))
    obtain ⟨y, h4⟩ := arg_int (h2 1 (by decide))
    have h3 : [a] = [.int .i64 x] := h3
    have h4 : [b] = [.int .i64 y] := h4
    cases h3; cases h4
    exact ⟨x, y, rfl⟩
end Go.Proofs.YtbieflpgjmgaiaaGreat
/- Walks: the program's Clashes and Fewest. -/
set_option maxRecDepth 100000
namespace Go.Proofs.YtbieflpgjmgaiaaGreat
open Kuhn
variable {r : Rm}
open Classical in
noncomputable def fewV (l : List Opn) (d : Int) : Nat := if askE l d = 0 then lowN (edg (cnt l d nb)) else 0
theorem Fewest_ok {b : Bool} {l : List Opn} {d : Int} (hz : SzsW l) : VP (sE r) 34 [.p (eOpns b l), iv d] (.tup [nv (fewV l d), iv (askE l d)]) := by
  have hlk := look_ok (r := r) (b := b) (ds := [d]) hz (show 0 < 1 by decide) (show 1 < 1000000 by decide)
  refine VP.of (fn := Tryz.f34) tb_ok (wk_ok rfl) (by kernel_rfl) rfl rfl rfl ?_
  refine VSt.go tb_ok false [] 200 rfl AllP.n ?_
  rcases ask_cases l d with ⟨hR, hd, hE⟩ | ⟨hE, hl⟩
  · have hz := hR.szs
    rw [(look1 (b := b) hR hd).1, (look1 (b := b) hR hd).2] at hlk
    refine VSt.pc rfl rfl rfl rfl rfl rfl rfl rfl ((VP.imp hlk ⟨AImp.refl _, lit1, trivial⟩)) ?_
    refine VSt.go tb_ok false [] 200 rfl AllP.n ?_
    refine VSt.cond rfl (fun h => absurd h (by decide)) (fun _ => ?_)
    refine VSt.go tb_ok false [] 200 rfl AllP.n ?_
    refine VSt.pc rfl rfl rfl rfl rfl rfl rfl rfl ((fewest_ok (b := b) (d := d) hz hR)) ?_
    refine VSt.go tb_ok false [] 200 rfl AllP.n ?_
    refine EndsP.mk rfl rfl rfl ?_
    show AV.tup _ = AV.tup _
    unfold fewV
    rw [if_pos hE, hE]; rfl
  · rw [(hl b).1, (hl b).2] at hlk
    refine VSt.pc rfl rfl rfl rfl rfl rfl rfl rfl ((VP.imp hlk ⟨AImp.refl _, lit1, trivial⟩)) ?_
    refine VSt.go tb_ok false [] 200 rfl AllP.n ?_
    refine VSt.cond rfl (fun _ => ?_) (fun h => ?_)
    · refine VSt.go tb_ok false [] 200 rfl AllP.n ?_
      refine EndsP.mk rfl rfl rfl ?_
      show AV.tup _ = AV.tup _
      unfold fewV
      rw [if_neg hE]; rfl
    · have h : (!(askE l d == 0)) = false := h
      exact absurd (by simpa using h) hE
end Go.Proofs.YtbieflpgjmgaiaaGreat
