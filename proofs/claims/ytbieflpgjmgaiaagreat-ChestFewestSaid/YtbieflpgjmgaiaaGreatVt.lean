/- The program's ChestFewest returns true for all openings, days, sources and pairs, valid or not, without an exception and without changing its arguments: a part of the proof. -/
import Derived.Test.YtbieflpgjmgaiaaGreatVp
import Derived.Test.YtbieflpgjmgaiaaGreatVe
import Derived.Test.YtbieflpgjmgaiaaGreatVr
set_option linter.all false
/- Openings as arguments. -/
set_option maxRecDepth 100000
namespace Go.Proofs.YtbieflpgjmgaiaaGreat
noncomputable abbrev sE0 : Env := sE (.nil, true)
theorem arg_ints {n : Nat} {q : List PV} (h : Sh sE0 (n + 2) 32 q) : ∃ b l, PImps q [eInts b l] ∧ (b = true → l = []) ∧ l.length < 9223372036854775808 := by
  obtain ⟨nb, m, f, rfl, h1, h2, h3⟩ := Sh.slice (e := 3) (by kernel_rfl) h
  obtain ⟨l, rfl, h4⟩ := list_of (0 : Int) (P := fun k x => f k = [.int .i64 x]) fun k hk => let ⟨x, h, _⟩ := Sh.int (k := .i64) (by kernel_rfl) (h3 k hk); ⟨x, h⟩
  exact ⟨nb, l, ⟨PImp.lst fun k hk => by rw [h4 k hk]; exact ⟨PImp.refl _, trivial⟩, trivial⟩, fun h => List.length_eq_zero_iff.1 (h1 h), h2⟩
theorem arg_int {n : Nat} {q : List PV} (h : Sh sE0 (n + 1) 3 q) : ∃ x, q = [.int .i64 x] := let ⟨x, h, _⟩ := Sh.int (k := .i64) (by kernel_rfl) h; ⟨x, h⟩
theorem arg_opn {n : Nat} {q : List PV} (h : Sh sE0 (n + 3) 45 q) : ∃ o : Opn, PImps q (eOpn o) ∧ SzW o := by
  obtain ⟨h1, h2⟩ := Sh.struct (sz := 9) (l := [(3, 0), (3, 1), (3, 2), (3, 3), (3, 4), (32, 5), (32, 6), (3, 7), (3, 8)]) (by kernel_rfl) h
  match q, h1 with
  | [a, b, c, d, e, f, g, i, j], _ =>
    obtain ⟨x0, k0⟩ := arg_int (h2 (3, 0) (by simp) 1 (by kernel_rfl))
    obtain ⟨x1, k1⟩ := arg_int (h2 (3, 1) (by simp) 1 (by kernel_rfl))
    obtain ⟨x2, k2⟩ := arg_int (h2 (3, 2) (by simp) 1 (by kernel_rfl))
    obtain ⟨x3, k3⟩ := arg_int (h2 (3, 3) (by simp) 1 (by kernel_rfl))
    obtain ⟨x4, k4⟩ := arg_int (h2 (3, 4) (by simp) 1 (by kernel_rfl))
    obtain ⟨ib, il, k5, _, m5⟩ := arg_ints (h2 (32, 5) (by simp) 1 (by kernel_rfl))
    obtain ⟨ob, ol, k6, _, m6⟩ := arg_ints (h2 (32, 6) (by simp) 1 (by kernel_rfl))
    obtain ⟨x7, k7⟩ := arg_int (h2 (3, 7) (by simp) 1 (by kernel_rfl))
    obtain ⟨x8, k8⟩ := arg_int (h2 (3, 8) (by simp) 1 (by kernel_rfl))
    have k0 : [a] = _ := k0
    have k1 : [b] = _ := k1
    have k2 : [c] = _ := k2
    have k3 : [d] = _ := k3
    have k4 : [e] = _ := k4
    have k5 : PImps [f] _ := k5
    have k6 : PImps [g] _ := k6
    have k7 : [i] = _ := k7
    have k8 : [j] = _ := k8
    cases k0; cases k1; cases k2; cases k3; cases k4; cases k7; cases k8
    exact ⟨{ source := x0, register := x1, day := x2, through := x3, lawful := x4, inn := il, inB := ib, out := ol, outB := ob, known := x7, until_ := x8 },
      ⟨PImp.refl _, PImp.refl _, PImp.refl _, PImp.refl _, PImp.refl _, k5.1, k6.1, PImp.refl _, PImp.refl _, trivial⟩, ⟨m5, m6⟩⟩
theorem arg_opns {n : Nat} {q : List PV} (h : Sh sE0 (n + 4) 22 q) : ∃ (b : Bool) (l : List Opn), PImps q [eOpns b l] ∧ SzsW l := by
  obtain ⟨nb, m, f, rfl, h1, h2, h3⟩ := Sh.slice (e := 45) (by kernel_rfl) h
  obtain ⟨l, rfl, h4⟩ := list_of (default : Opn) (P := fun k o => PImps (f k) (eOpn o) ∧ SzW o) fun k hk => arg_opn (h3 k hk)
  exact ⟨nb, l, ⟨PImp.lst fun k hk => (h4 k hk).1, trivial⟩, ⟨h2, fun k hk => (h4 k hk).2⟩⟩
theorem Sh.array {E : Env} {n : Nat} {t : TypeId} {qs : List PV} {sz w m : Nat} {e : TypeId} (hi : (E.ti.get t).map (fun i => (i.size, i.desc)) = some (sz, .array m e)) (he : (E.ti.get e).map (·.size) = some w) (h : Sh E (n + 1) t qs) : qs.length = sz ∧ ∀ k, k < m → Sh E n e ((qs.drop (k * w)).take w) := by
  unfold Sh at h
  cases hg : E.ti.get t with
  | none => rw [hg] at hi; cases hi
  | some i =>
    rw [hg] at hi h
    have hi : (i.size, i.desc) = (sz, .array m e) := Option.some.inj hi
    simp only [Prod.mk.injEq] at hi
    obtain ⟨h1, h2⟩ := hi
    simp only [h2] at h
    obtain ⟨h3, g, h4, h5⟩ := h
    rw [h4] at he
    have he : g.size = w := Option.some.inj he
    subst he
    exact ⟨h3.trans h1, h5⟩
end Go.Proofs.YtbieflpgjmgaiaaGreat
/- Walks: the program's Clashes and Fewest. -/
set_option maxRecDepth 100000
namespace Go.Proofs.YtbieflpgjmgaiaaGreat
open Kuhn
variable {r : Rm}
open Classical in
noncomputable def claL (l : List Opn) (d : Int) : List (Nat × Nat) := if askE l d = 0 then cross (cnt l d nb) else []
open Classical in
noncomputable def fewV (l : List Opn) (d : Int) : Nat := if askE l d = 0 then lowN (edg (cnt l d nb)) else 0
theorem Clashes_ok {b : Bool} {l : List Opn} {d : Int} (hz : SzsW l) : VP (sE r) 32 [.p (eOpns b l), iv d] (.tup [.p (ePairs (claL l d)), iv (askE l d)]) := by
  have hlk := look_ok (r := r) (b := b) (ds := [d]) hz (show 0 < 1 by decide) (show 1 < 1000000 by decide)
  refine VP.of (fn := Tryz.f32) tb_ok (wk_ok rfl) (by kernel_rfl) rfl rfl rfl ?_
  refine VSt.go tb_ok false [] 200 rfl AllP.n ?_
  rcases ask_cases l d with ⟨hR, hd, hE⟩ | ⟨hE, hl⟩
  · have hz := hR.szs
    rw [(look1 (b := b) hR hd).1, (look1 (b := b) hR hd).2] at hlk
    refine VSt.pc rfl rfl rfl rfl rfl rfl rfl rfl ((VP.imp hlk ⟨AImp.refl _, lit1, trivial⟩)) ?_
    refine VSt.go tb_ok false [] 200 rfl AllP.n ?_
    refine VSt.cond rfl (fun h => absurd h (by decide)) (fun _ => ?_)
    refine VSt.go tb_ok false [] 200 rfl AllP.n ?_
    refine VSt.pc rfl rfl rfl rfl rfl rfl rfl rfl ((pairs_ok (b := b) (d := d) hz hR)) ?_
    refine VSt.go tb_ok false [] 200 rfl AllP.n ?_
    refine EndsP.mk rfl rfl rfl ?_
    show AV.tup _ = AV.tup _
    unfold claL
    rw [if_pos hE, hE]; rfl
  · rw [(hl b).1, (hl b).2] at hlk
    refine VSt.pc rfl rfl rfl rfl rfl rfl rfl rfl ((VP.imp hlk ⟨AImp.refl _, lit1, trivial⟩)) ?_
    refine VSt.go tb_ok false [] 200 rfl AllP.n ?_
    refine VSt.cond rfl (fun _ => ?_) (fun h => ?_)
    · refine VSt.go tb_ok false [5] 200 rfl AllP.n ?_
      refine VSt.putO 4 (.p (ePairs [])) rfl AImp.nil ?_
      refine VSt.go tb_ok false [] 200 rfl AllP.n ?_
      refine EndsP.mk rfl rfl rfl ?_
      show AV.tup _ = AV.tup _
      unfold claL
      rw [if_neg hE]; rfl
    · have h : (!(askE l d == 0)) = false := h
      exact absurd (by simpa using h) hE
theorem Fewest_ok {b : Bool} {l : List Opn} {d : Int} (hz : SzsW l) : VP (sE r) 34 [.p (eOpns b l), iv d] (.tup [nv (fewV l d), iv (askE l d)]) := by
  have hlk := look_ok (r := r) (b := b) (ds := [d]) hz (show 0 < 1 by decide) (show 1 < 1000000 by decide)
  refine VP.of (fn := Tryz.f34) tb_ok (wk_ok rfl) (by kernel_rfl) rfl rfl rfl ?_
  refine VSt.go tb_ok false [] 200 rfl AllP.n ?_
  rcases ask_cases l d with ⟨hR, hd, hE⟩ | ⟨hE, hl⟩
  · have hz := hR.szs
    rw [(look1 (b := b) hR hd).1, (look1 (b := b) hR hd).2] at hlk
    refine VSt.pc rfl rfl rfl rfl rfl rfl rfl rfl ((VP.imp hlk ⟨AImp.refl _, lit1, trivial⟩)) ?_
    refine VSt.go tb_ok false [] 200 rfl AllP.n ?_
    refine VSt.cond rfl (fun h => absurd h (by decide)) (fun _ => ?_)
    refine VSt.go tb_ok false [] 200 rfl AllP.n ?_
    refine VSt.pc rfl rfl rfl rfl rfl rfl rfl rfl ((fewest_ok (b := b) (d := d) hz hR)) ?_
    refine VSt.go tb_ok false [] 200 rfl AllP.n ?_
    refine EndsP.mk rfl rfl rfl ?_
    show AV.tup _ = AV.tup _
    unfold fewV
    rw [if_pos hE, hE]; rfl
  · rw [(hl b).1, (hl b).2] at hlk
    refine VSt.pc rfl rfl rfl rfl rfl rfl rfl rfl ((VP.imp hlk ⟨AImp.refl _, lit1, trivial⟩)) ?_
    refine VSt.go tb_ok false [] 200 rfl AllP.n ?_
    refine VSt.cond rfl (fun _ => ?_) (fun h => ?_)
    · refine VSt.go tb_ok false [] 200 rfl AllP.n ?_
      refine EndsP.mk rfl rfl rfl ?_
      show AV.tup _ = AV.tup _
      unfold fewV
      rw [if_neg hE]; rfl
    · have h : (!(askE l d == 0)) = false := h
      exact absurd (by simpa using h) hE
end Go.Proofs.YtbieflpgjmgaiaaGreat
