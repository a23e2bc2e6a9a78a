/- The program's ChestCovers returns true for all numbers without an exception and without changing its arguments: a part of the proof. -/
import Derived.Test.YtbieflpgjmgaiaaGreatVr
import Derived.Test.YtbieflpgjmgaiaaGreatVs
import Derived.Test.YtbieflpgjmgaiaaGreatVu
import Derived.Test.YtbieflpgjmgaiaaGreatVe
set_option linter.all false
/- Readings, made step by step: what can be so is what some least cover has. -/
set_option maxRecDepth 100000
namespace Go.Proofs.YtbieflpgjmgaiaaGreat
open Kuhn
structure Least (c : List Opn) (C : List Nat) : Prop where
  cov : Cov (edg c) C
  len : C.length = lowN (edg c)
theorem Least.some {c : List Opn} (h : Vc c) (hn : c.length ≤ 60) : ∃ C, Least c C := by
  obtain ⟨C, c1, c2⟩ := (lowN_ok h hn).some
  exact ⟨C, c1, c2⟩
theorem Least.out {c : List Opn} (h : Vc c) (hn : c.length ≤ 60) {C : List Nat} (hC : Least c C) {o : Opn} (ho : o ∈ c) (hm : ∀ x, x ∈ near c o → x ∈ C) : src o ∉ C := by
  intro hin
  have hc : Cov (edg c) (C.erase (src o)) := fun f x he => by
    by_cases h1 : f = src o
    · have hx := (near_iff h ho (x := x)).2 (.inl (h1 ▸ he))
      exact .inr ((List.mem_erase_of_ne (show x ≠ src o from fun e => near_not h ho (by rw [← e]; exact hx))).2 (hm x hx))
    · by_cases h2 : x = src o
      · have hx := (near_iff h ho (x := f)).2 (.inr (h2 ▸ he))
        exact .inl ((List.mem_erase_of_ne h1).2 (hm f hx))
      · rcases hC.cov f x he with h3 | h3
        · exact .inl ((List.mem_erase_of_ne h1).2 h3)
        · exact .inr ((List.mem_erase_of_ne h2).2 h3)
  have h3 := (lowN_ok h hn).all _ hc
  rw [List.length_erase_of_mem hin, hC.len] at h3
  have := List.length_pos_of_mem hin
  have := hC.len
  omega
theorem can_gen {l : List Opn} {d : Int} (hR : Reg l) {Y X : List Int} (hY : ∀ s, s ∈ Y → ∃ o, o ∈ cnt l d nb ∧ o.source = s) (hX : ∀ x, x ∈ X → 0 ≤ x) :
    canB l d Y X = true ↔ ∃ C, Least (cnt l d nb) C ∧ (∀ x, x ∈ natL X → x ∈ C) ∧ ∀ s, s ∈ natL Y → s ∉ C := by
  have hV := hR.cnt d nb
  have hn : (cnt l d nb).length ≤ 60 := Vc.len hR rfl
  have hp : ∀ x, x ∈ addL l d X Y → 0 ≤ x := fun x hx => addL_pos hR hX hx
  have hp2 : ∀ x, x ∈ setL (addL l d X Y) → 0 ≤ x := fun x hx => hp x (setL_mem.1 hx)
  have hN := natL_nodup hp2 (setL_rise _)
  have hm : ∀ x : Nat, x ∈ natL (setL (addL l d X Y)) ↔ Int.ofNat x ∈ addL l d X Y := fun x => by rw [natL_mem hp2, setL_mem]
  have hY0 : ∀ s, s ∈ Y → 0 ≤ s := fun s hs => by
    obtain ⟨o, ho, rfl⟩ := hY s hs
    have := (hV.ok o ho).pos
    omega
  have hadd : ∀ x : Nat, Int.ofNat x ∈ addL l d X Y ↔ x ∈ natL X ∨ ∃ o, o ∈ cnt l d nb ∧ o.source ∈ Y ∧ x ∈ near (cnt l d nb) o := fun x => by
    unfold addL
    rw [List.mem_append, natL_mem hX, List.mem_flatMap]
    constructor
    · rintro (h | ⟨s, hs, h⟩)
      · exact .inl h
      · obtain ⟨o, ho, rfl⟩ := hY s hs
        exact .inr ⟨o, ho, hs, (agO_near hR ho x).2 h⟩
    · rintro (h | ⟨o, ho, hs, h⟩)
      · exact .inl h
      · exact .inr ⟨o.source, hs, (agO_near hR ho x).1 h⟩
  constructor
  · intro h
    have hc : ∀ s, s ∈ Y → s ∉ addL l d X Y := fun s hs hx => by
      have h1 : comI (setL (addL l d X Y)) Y = true := comI_iff.2 ⟨s, setL_mem.2 hx, hs⟩
      unfold canB at h
      rw [h1] at h
      exact Bool.noConfusion (show false = true from h)
    obtain ⟨C, c1, c2, c3⟩ := (may_iff hV hn hN).1 ((can_iff hN hp hm hc).1 h)
    refine ⟨C, ⟨c1, c2⟩, fun x hx => c3 x ((hm x).2 ((hadd x).2 (.inl hx))), fun s hs => ?_⟩
    have hs' := (natL_mem hY0).1 hs
    obtain ⟨o, ho, e⟩ := hY _ hs'
    have e2 : src o = s := by
      have := (hV.ok o ho).src
      rw [e] at this
      exact (Int.ofNat_inj.1 this).symm
    rw [← e2]
    exact Least.out hV hn ⟨c1, c2⟩ ho fun x hx => c3 x ((hm x).2 ((hadd x).2 (.inr ⟨o, ho, by rw [e]; exact hs', hx⟩)))
  · rintro ⟨C, hC, h1, h2⟩
    have hno : ∀ o, o ∈ cnt l d nb → o.source ∈ Y → src o ∉ C := fun o ho hs => h2 _ ((natL_mem hY0).2 (by rw [← (hV.ok o ho).src]; exact hs))
    have hin : ∀ x : Nat, Int.ofNat x ∈ addL l d X Y → x ∈ C := fun x hx => by
      rcases (hadd x).1 hx with h | ⟨o, ho, hs, h⟩
      · exact h1 x h
      · rcases (near_iff hV ho).1 h with h | h
        · exact (hC.cov _ _ h).resolve_left (hno o ho hs)
        · exact (hC.cov _ _ h).resolve_right (hno o ho hs)
    have hc : ∀ s, s ∈ Y → s ∉ addL l d X Y := fun s hs hx => by
      obtain ⟨o, ho, rfl⟩ := hY s hs
      rw [(hV.ok o ho).src] at hx
      exact hno o ho hs (hin _ hx)
    exact (can_iff hN hp hm hc).2 ((may_iff hV hn hN).2 ⟨C, hC.cov, hC.len, fun x hx => hin x ((hm x).1 hx)⟩)
noncomputable def rdS (l : List Opn) (d : Int) (st : List Int × List Int) (o : Opn) : List Int × List Int := bif canB l d (st.1 ++ [o.source]) st.2 then (st.1 ++ [o.source], st.2) else (st.1, st.2 ++ [o.source])
noncomputable def rdK (l : List Opn) (d : Int) (k : Nat) : List Int × List Int := ((l.take k).filter fun o => counts o d).foldl (rdS l d) ([], [])
theorem rdK_t {l : List Opn} {d : Int} {k : Nat} (h : k < l.length) (hp : counts (nth l k) d = true) : rdK l d (k + 1) = rdS l d (rdK l d k) (nth l k) := by
  unfold rdK
  rw [take_nth h, List.filter_append, List.filter_cons_of_pos (by exact hp), List.foldl_append]; rfl
theorem rdK_f {l : List Opn} {d : Int} {k : Nat} (h : k < l.length) (hp : counts (nth l k) d = false) : rdK l d (k + 1) = rdK l d k := by
  unfold rdK
  rw [take_nth h, List.filter_append, List.filter_cons_of_neg (by rw [hp]; decide), List.filter_nil, List.append_nil]
structure RdInv (l : List Opn) (d : Int) (P : List Opn) (st : List Int × List Int) : Prop where
  y : ∀ s, s ∈ st.1 → ∃ o, o ∈ P ∧ o.source = s
  x : st.2.Sublist (P.map (·.source))
  all : ∀ o, o ∈ P → o.source ∈ st.1 ∨ o.source ∈ st.2
  some : ∃ C, Least (cnt l d nb) C ∧ (∀ x, x ∈ natL st.2 → x ∈ C) ∧ ∀ s, s ∈ natL st.1 → s ∉ C
  len : st.1.length ≤ P.length ∧ st.2.length ≤ P.length
theorem src_pos {l : List Opn} {d : Int} (hR : Reg l) {P : List Opn} (hP : ∀ o, o ∈ P → o ∈ cnt l d nb) {o : Opn} (ho : o ∈ P) : 0 ≤ o.source := by
  have := ((hR.cnt d nb).ok o (hP o ho)).pos
  omega
theorem RdInv.ypos {l : List Opn} {d : Int} {P : List Opn} {st : List Int × List Int} (h : RdInv l d P st) (hR : Reg l) (hP : ∀ o, o ∈ P → o ∈ cnt l d nb) : ∀ s, s ∈ st.1 → 0 ≤ s := fun s hs => by
  obtain ⟨o, ho, rfl⟩ := h.y s hs
  exact src_pos hR hP ho
theorem RdInv.xmem {l : List Opn} {d : Int} {P : List Opn} {st : List Int × List Int} (h : RdInv l d P st) : ∀ s, s ∈ st.2 → ∃ o, o ∈ P ∧ o.source = s := fun s hs => by
  obtain ⟨o, ho, e⟩ := List.mem_map.1 (h.x.subset hs)
  exact ⟨o, ho, e⟩
theorem RdInv.xpos {l : List Opn} {d : Int} {P : List Opn} {st : List Int × List Int} (h : RdInv l d P st) (hR : Reg l) (hP : ∀ o, o ∈ P → o ∈ cnt l d nb) : ∀ s, s ∈ st.2 → 0 ≤ s := fun s hs => by
  obtain ⟨o, ho, rfl⟩ := h.xmem s hs
  exact src_pos hR hP ho
theorem rd_step {l : List Opn} {d : Int} (hR : Reg l) {P : List Opn} {st : List Int × List Int} {o : Opn} (hP : ∀ o, o ∈ P → o ∈ cnt l d nb) (ho : o ∈ cnt l d nb) (h : RdInv l d P st) : RdInv l d (P ++ [o]) (rdS l d st o) := by
  have hV := hR.cnt d nb
  have hpo : 0 ≤ o.source := by have := (hV.ok o ho).pos; omega
  have hy := h.ypos hR hP
  have hx := h.xpos hR hP
  have hy2 : ∀ s, s ∈ st.1 ++ [o.source] → 0 ≤ s := fun s hs => by
    rcases List.mem_append.1 hs with hs | hs
    · exact hy s hs
    · rw [List.mem_singleton.1 hs]; exact hpo
  have hx2 : ∀ s, s ∈ st.2 ++ [o.source] → 0 ≤ s := fun s hs => by
    rcases List.mem_append.1 hs with hs | hs
    · exact hx s hs
    · rw [List.mem_singleton.1 hs]; exact hpo
  have hY2 : ∀ s, s ∈ st.1 ++ [o.source] → ∃ o, o ∈ cnt l d nb ∧ o.source = s := fun s hs => by
    rcases List.mem_append.1 hs with hs | hs
    · obtain ⟨p, hp, e⟩ := h.y s hs
      exact ⟨p, hP p hp, e⟩
    · exact ⟨o, ho, (List.mem_singleton.1 hs).symm⟩
  have hg := can_gen hR hY2 hx
  have old : ∀ p, p ∈ P → p ∈ P ++ [o] := fun p hp => List.mem_append_left _ hp
  have new : o ∈ P ++ [o] := by simp
  unfold rdS
  cases hb : canB l d (st.1 ++ [o.source]) st.2 with
  | true =>
    obtain ⟨C, c1, c2, c3⟩ := hg.1 hb
    refine ⟨fun s hs => ?_, ?_, fun p hp => ?_, ⟨C, c1, c2, c3⟩, ?_⟩
    · rcases List.mem_append.1 hs with hs | hs
      · obtain ⟨p, hp, e⟩ := h.y s hs
        exact ⟨p, old p hp, e⟩
      · exact ⟨o, new, (List.mem_singleton.1 hs).symm⟩
    · rw [List.map_append]
      exact h.x.trans (List.sublist_append_left _ _)
    · show p.source ∈ st.1 ++ [o.source] ∨ p.source ∈ st.2
      rcases List.mem_append.1 hp with hp | hp
      · rcases h.all p hp with h1 | h1
        · exact .inl (List.mem_append_left _ h1)
        · exact .inr h1
      · rw [List.mem_singleton.1 hp]; exact .inl (by simp)
    · have := h.len
      simp only [cond_true, List.length_append, List.length_singleton]
      omega
  | false =>
    obtain ⟨C, c1, c2, c3⟩ := h.some
    have hin : src o ∈ C := Classical.byContradiction fun hno => by
      have : canB l d (st.1 ++ [o.source]) st.2 = true := hg.2 ⟨C, c1, c2, fun s hs => by
        have hs := (natL_mem hy2).1 hs
        rcases List.mem_append.1 hs with hs | hs
        · exact c3 s ((natL_mem hy).2 hs)
        · have e := List.mem_singleton.1 hs
          rw [(hV.ok o ho).src] at e
          rw [Int.ofNat_inj.1 e]; exact hno⟩
      rw [hb] at this; cases this
    refine ⟨fun s hs => ?_, ?_, fun p hp => ?_, ⟨C, c1, fun x hx' => ?_, c3⟩, ?_⟩
    · obtain ⟨p, hp, e⟩ := h.y s hs
      exact ⟨p, old p hp, e⟩
    · rw [List.map_append]
      exact h.x.append (List.Sublist.refl _)
    · show p.source ∈ st.1 ∨ p.source ∈ st.2 ++ [o.source]
      rcases List.mem_append.1 hp with hp | hp
      · rcases h.all p hp with h1 | h1
        · exact .inl h1
        · exact .inr (List.mem_append_left _ h1)
      · rw [List.mem_singleton.1 hp]; exact .inr (by simp)
    · have hx' := (natL_mem hx2).1 hx'
      rcases List.mem_append.1 hx' with hx' | hx'
      · exact c2 x ((natL_mem hx).2 hx')
      · have e := List.mem_singleton.1 hx'
        rw [(hV.ok o ho).src] at e
        rw [Int.ofNat_inj.1 e]; exact hin
    · have := h.len
      simp only [cond_false, List.length_append, List.length_singleton]
      omega
theorem rd_fold {l : List Opn} {d : Int} (hR : Reg l) : ∀ (Q P : List Opn) (st : List Int × List Int), (∀ o, o ∈ P → o ∈ cnt l d nb) → (∀ o, o ∈ Q → o ∈ cnt l d nb) → RdInv l d P st → RdInv l d (P ++ Q) (Q.foldl (rdS l d) st)
  | [], P, st, _, _, h => by rw [List.append_nil]; exact h
  | o :: Q, P, st, hP, hQ, h => by
    have e : P ++ o :: Q = (P ++ [o]) ++ Q := by rw [List.append_assoc]; rfl
    rw [e]
    have ho := hQ o (List.mem_cons_self ..)
    exact rd_fold hR Q (P ++ [o]) _ (fun p hp => by
      rcases List.mem_append.1 hp with hp | hp
      · exact hP p hp
      · rw [List.mem_singleton.1 hp]; exact ho) (fun p hp => hQ p (List.mem_cons_of_mem _ hp)) (rd_step hR hP ho h)
theorem rd_take {l : List Opn} {d : Int} (hR : Reg l) (k : Nat) : RdInv l d ((l.take k).filter fun o => counts o d) (rdK l d k) ∧ ∀ o, o ∈ ((l.take k).filter fun o => counts o d) → o ∈ cnt l d nb := by
  have hQ : ∀ o, o ∈ ((l.take k).filter fun o => counts o d) → o ∈ cnt l d nb := fun o ho => by
    obtain ⟨h1, h2⟩ := List.mem_filter.1 ho
    rw [cnt_nb]
    exact List.mem_filter.2 ⟨List.mem_of_mem_take h1, h2⟩
  refine ⟨?_, hQ⟩
  obtain ⟨C, hC⟩ := Least.some (hR.cnt d nb) (Vc.len hR rfl)
  exact rd_fold hR _ [] ([], []) (fun o h => nomatch h) hQ ⟨fun s h => (nomatch h), List.Sublist.refl _, fun o h => (nomatch h), ⟨C, hC, fun x h => (nomatch h), fun x h => (nomatch h)⟩, Nat.le_refl _, Nat.le_refl _⟩
structure FalseOk (c : List Opn) (s : List Int) : Prop where
  mem : ∀ x, x ∈ s → ∃ o, o ∈ c ∧ o.source = x
  rise : s.Pairwise (· < ·)
  cov : Cov (edg c) (natL s)
theorem rise_nodup {s : List Int} (h : s.Pairwise (· < ·)) : s.Nodup := h.imp fun hab e => by omega
theorem reading_ok {l : List Opn} {d : Int} (hR : Reg l) : FalseOk (cnt l d nb) (rdK l d l.length).2 ∧ (rdK l d l.length).2.length = lowN (edg (cnt l d nb)) := by
  have hV := hR.cnt d nb
  have hn : (cnt l d nb).length ≤ 60 := Vc.len hR rfl
  obtain ⟨h, hP⟩ := rd_take (d := d) hR l.length
  rw [List.take_length, ← cnt_nb] at h hP
  obtain ⟨C, c1, c2, c3⟩ := h.some
  have hx := h.xpos hR hP
  have hy := h.ypos hR hP
  have hr : (rdK l d l.length).2.Pairwise (· < ·) := by
    refine List.Pairwise.sublist h.x ?_
    rw [List.pairwise_map]
    exact hV.rise
  have hend : ∀ o, o ∈ cnt l d nb → src o ∈ C → src o ∈ natL (rdK l d l.length).2 := fun o ho hc => by
    rcases h.all o ho with h1 | h1
    · exact absurd hc (c3 _ ((natL_mem hy).2 (by rw [← (hV.ok o ho).src]; exact h1)))
    · exact (natL_mem hx).2 (by rw [← (hV.ok o ho).src]; exact h1)
  have hcov : Cov (edg (cnt l d nb)) (natL (rdK l d l.length).2) := fun f x he => by
    obtain ⟨a, ha, b, hb, _, rfl, rfl⟩ := edg_iff.1 he
    rcases c1.cov _ _ he with h1 | h1
    · exact .inl (hend a ha h1)
    · exact .inr (hend b hb h1)
  refine ⟨⟨h.xmem, hr, hcov⟩, ?_⟩
  have h1 := (lowN_ok hV hn).all _ hcov
  have h2 : (natL (rdK l d l.length).2).length ≤ C.length := nodup_le (natL_nodup hx hr) c2
  rw [natL_len] at h1 h2
  have := c1.len
  omega
theorem FalseOk.least {c : List Opn} (h : Vc c) (hn : c.length ≤ 60) {s : List Int} (hs : FalseOk c s) : lowN (edg c) ≤ s.length := by
  have := (lowN_ok h hn).all _ hs.cov
  rw [natL_len] at this
  exact this
end Go.Proofs.YtbieflpgjmgaiaaGreat
/- The pairs of a matching: partners of both sides go with each other. -/
set_option maxRecDepth 100000
namespace Go.Proofs.YtbieflpgjmgaiaaGreat
open Kuhn
def Cons (σ : KS Nat) : Prop := ∀ x y, σ.to x = some y → σ.of y = some x
structure GoodK (σ : KS Nat) (f : Nat) (q : Bool × KS Nat) : Prop where
  cons : Cons q.2
  won : q.1 = true → ∃ s, σ.seen s = false ∧ q.2.to f = some s
  old : ∀ s, σ.seen s = true → q.2.of s = σ.of s ∧ q.2.seen s = true
theorem loopK_cons {rec : Nat → KS Nat → Bool × KS Nat} {f : Nat} (hr : ∀ p τ, Cons τ → GoodK τ p (rec p τ)) : ∀ (l : List Nat) (σ : KS Nat), Cons σ → GoodK σ f (loopK rec f l σ)
  | [], σ, h => ⟨h, fun e => (nomatch e), fun s hs => ⟨rfl, hs⟩⟩
  | y :: l, σ, h => by
    cases hs : σ.seen y with
    | true => rw [loopK_seen hs]; exact loopK_cons hr l σ h
    | false =>
      have hy : (σ.see y).seen y = true := see_seen.2 (.inl rfl)
      have up : ∀ s, σ.seen s = true → (σ.see y).seen s = true := fun s h => see_seen.2 (.inr h)
      have ne : ∀ s, σ.seen s = true → s ≠ y := fun s h e => by rw [e, hs] at h; cases h
      cases ho : σ.of y with
      | none =>
        rw [loopK_free hs ho]
        refine ⟨fun u z hz => ?_, fun _ => ⟨y, hs, upd_eq⟩, fun s h1 => ⟨upd_ne (ne s h1), up s h1⟩⟩
        by_cases e : u = f
        · subst e
          rw [show ((σ.see y).pair u y).to u = some y from upd_eq] at hz
          cases hz
          exact upd_eq
        · rw [show ((σ.see y).pair f y).to u = σ.to u from upd_ne e] at hz
          have h2 := h u z hz
          have h3 : z ≠ y := fun e => by rw [e, ho] at h2; cases h2
          rw [show ((σ.see y).pair f y).of z = σ.of z from upd_ne h3]; exact h2
      | some g =>
        have hg := hr g (σ.see y) h
        cases hw : (rec g (σ.see y)).1 with
        | true =>
          rw [loopK_win hs ho hw]
          obtain ⟨s', s1, s2⟩ := hg.won hw
          refine ⟨fun u z hz => ?_, fun _ => ⟨y, hs, upd_eq⟩, fun s h1 => ⟨?_, (hg.old s (up s h1)).2⟩⟩
          · by_cases e : u = f
            · subst e
              rw [show (((rec g (σ.see y)).2).pair u y).to u = some y from upd_eq] at hz
              cases hz
              exact upd_eq
            · rw [show (((rec g (σ.see y)).2).pair f y).to u = (rec g (σ.see y)).2.to u from upd_ne e] at hz
              have h2 := hg.cons u z hz
              have h3 : z ≠ y := fun e => by
                subst e
                have h4 : (rec g (σ.see z)).2.of z = σ.of z := (hg.old z hy).1
                rw [h4, ho] at h2
                cases h2
                rw [s2] at hz
                cases hz
                rw [hy] at s1; cases s1
              rw [show (((rec g (σ.see y)).2).pair f y).of z = (rec g (σ.see y)).2.of z from upd_ne h3]; exact h2
          · rw [show (((rec g (σ.see y)).2).pair f y).of s = (rec g (σ.see y)).2.of s from upd_ne (ne s h1)]
            exact (hg.old s (up s h1)).1
        | false =>
          rw [loopK_lose hs ho hw]
          have hl := loopK_cons (f := f) hr l _ hg.cons
          refine ⟨hl.cons, fun e => ?_, fun s h1 => ?_⟩
          · obtain ⟨s, s1, s2⟩ := hl.won e
            refine ⟨s, ?_, s2⟩
            cases h1 : σ.seen s with
            | false => rfl
            | true => rw [(hg.old s (up s h1)).2] at s1; cases s1
          · have h2 := hg.old s (up s h1)
            have h3 := hl.old s h2.2
            exact ⟨h3.1.trans h2.1, h3.2⟩
theorem tryK_cons {adj : Nat → List Nat} : ∀ (k f : Nat) (σ : KS Nat), Cons σ → GoodK σ f (tryK adj k f σ)
  | 0, _, σ, h => ⟨h, fun e => (nomatch e), fun s hs => ⟨rfl, hs⟩⟩
  | k + 1, f, σ, h => loopK_cons (fun p τ hτ => tryK_cons k p τ hτ) (adj f) σ h
theorem matK_cons (P : List (Nat × Nat)) : ∀ k, k ≤ (firstsP P []).length → Cons (ks0 (matK P k))
  | 0, _ => fun x y h => (nomatch h)
  | k + 1, h => by
    have h1 := tryK_cons (adj := nextP P) 61 ((firstsP P []).getD k 0) _ (matK_cons P k (by omega))
    obtain ⟨e1, e2, _⟩ := stepM_eq (nextP P) 61 ((firstsP P []).getD k 0) (matK P k)
    rw [matK_step P (by omega)]
    intro x y hx
    have hx : (stepM (nextP P) 61 (matK P k) ((firstsP P []).getD k 0)).to x = some y := hx
    show (stepM (nextP P) 61 (matK P k) ((firstsP P []).getD k 0)).of y = some x
    rw [e1]
    rw [e2] at hx
    exact h1.cons x y hx
def parO (c : List Opn) (o : Opn) : Option Nat := (matchM (cross c)).to (src o)
def hasPar (c : List Opn) (o : Opn) : Bool := o.register == 1 && (parO c o).isSome
def pairO (c : List Opn) (o : Opn) : Nat × Nat := (src o, (parO c o).getD 0)
def prL (c : List Opn) : List (Nat × Nat) := (c.filter (hasPar c)).map (pairO c)
theorem prL_mem {c : List Opn} {p : Nat × Nat} : p ∈ prL c ↔ ∃ o, o ∈ c ∧ o.register = 1 ∧ src o = p.1 ∧ (matchM (cross c)).to p.1 = some p.2 := by
  unfold prL
  rw [List.mem_map]
  constructor
  · rintro ⟨o, ho, rfl⟩
    obtain ⟨h1, h2⟩ := List.mem_filter.1 ho
    unfold hasPar at h2
    rw [Bool.and_eq_true, beq_iff_eq] at h2
    refine ⟨o, h1, h2.1, rfl, ?_⟩
    obtain ⟨y, hy⟩ := Option.isSome_iff_exists.1 h2.2
    show (matchM (cross c)).to (src o) = some ((parO c o).getD 0)
    rw [hy]; exact hy
  · rintro ⟨o, ho, hr, e, ht⟩
    have ht : parO c o = some p.2 := by unfold parO; rw [e]; exact ht
    refine ⟨o, List.mem_filter.2 ⟨ho, by unfold hasPar; rw [hr, ht]; rfl⟩, ?_⟩
    unfold pairO
    rw [e, ht]; rfl
theorem of_cons {c : List Opn} {x y : Nat} (h : (matchM (cross c)).to x = some y) : (matchM (cross c)).of y = some x := by
  have := matK_cons (cross c) _ (Nat.le_refl _)
  rw [matK_all] at this
  exact this x y h
theorem to_of {c : List Opn} (h : Vc c) (hn : c.length ≤ 60) {x y : Nat} (ho : (matchM (cross c)).of y = some x) : (matchM (cross c)).to x = some y := by
  have hG := mg_cross h hn
  have hT := toN_fold (adj := nextP (cross c)) (k := 61) (nodup_left hG.nod) (firstsP (cross c) []) [] ⟨fun _ => none, fun _ => none, 0⟩ (by rw [List.nil_append]; exact nodup_left hG.nod) (fun x hx => hx) ⟨fun s p h => (nomatch h), fun x h => (by cases h), by simp⟩
  have hT : ToN (firstsP (cross c) []) ([] ++ firstsP (cross c) []) (matchM (cross c)) := hT
  obtain ⟨z, hz⟩ := Option.isSome_iff_exists.1 (hT.dm y x ho)
  have hz : (matchM (cross c)).to x = some z := hz
  have := (match_inv h hn).inj y z x ho (of_cons hz)
  rw [this]; exact hz
structure PairsOk (c : List Opn) (P : List (Nat × Nat)) : Prop where
  mem : ∀ p, p ∈ P → p ∈ cross c
  rise : P.Pairwise fun p q => p.1 < q.1
  apart : (P.map Prod.snd).Nodup
theorem prL_ok {c : List Opn} (h : Vc c) (hn : c.length ≤ 60) : PairsOk c (prL c) ∧ (prL c).length = lowN (edg c) := by
  have hI := match_inv h hn
  have hmem : ∀ p, p ∈ prL c → p ∈ cross c := fun p hp => by
    obtain ⟨o, ho, hr, e, ht⟩ := prL_mem.1 hp
    have h1 := (hI.edge p.2 p.1 (of_cons ht)).1
    exact nextP_mem.1 h1
  have hrise : (prL c).Pairwise fun p q => p.1 < q.1 := by
    unfold prL
    rw [List.pairwise_map]
    refine ((h.filter (hasPar c)).rise).imp_of_mem fun {a b} ha hb hab => ?_
    have h1 := (h.ok a (List.mem_filter.1 ha).1).src
    have h2 := (h.ok b (List.mem_filter.1 hb).1).src
    rw [h1, h2] at hab
    show src a < src b
    simp only [Int.ofNat_eq_natCast] at hab
    omega
  have happ : ((prL c).map Prod.snd).Nodup := by
    rw [List.Nodup, List.pairwise_map]
    refine hrise.imp_of_mem fun {p q} hp hq hpq e => ?_
    obtain ⟨_, _, _, _, h1⟩ := prL_mem.1 hp
    obtain ⟨_, _, _, _, h2⟩ := prL_mem.1 hq
    have h1 := of_cons h1
    have h2 := of_cons h2
    rw [e, h2] at h1
    have := Option.some.inj h1
    omega
  refine ⟨⟨hmem, hrise, happ⟩, ?_⟩
  have hB : (seconds c).Nodup := (h.filter _).nodup
  have e1 : ((prL c).map Prod.snd).length = ((seconds c).filter fun s => ((matchM (cross c)).of s).isSome).length := by
    refine nodup_len happ (hB.filter _) fun y => ?_
    rw [List.mem_map, List.mem_filter]
    constructor
    · rintro ⟨p, hp, rfl⟩
      have h1 := hmem p hp
      obtain ⟨_, _, _, _, ht⟩ := prL_mem.1 hp
      obtain ⟨a, ha, b, hb, h2, _, h3⟩ := cross_mem h1
      exact ⟨List.mem_map.2 ⟨b, List.mem_filter.2 ⟨hb, by simpa using (isP_regs h2).2.1⟩, h3⟩, by rw [of_cons ht]; rfl⟩
    · rintro ⟨_, hs⟩
      obtain ⟨x, hx⟩ := Option.isSome_iff_exists.1 hs
      obtain ⟨a, ha, hr, e⟩ := first_of (hI.edge y x hx).2
      exact ⟨(x, y), prL_mem.2 ⟨a, ha, hr, e, to_of h hn hx⟩, rfl⟩
  rw [List.length_map, hI.num] at e1
  rw [e1, lowN_eq (low_c h hn)]
theorem PairsOk.le {c : List Opn} (h : Vc c) {P : List (Nat × Nat)} (hP : PairsOk c P) {C : List Nat} (hC : Cov (edg c) C) : P.length ≤ C.length := by
  have key : ∀ (P : List (Nat × Nat)), (∀ p, p ∈ P → p ∈ cross c) → P.Pairwise (fun p q => p.1 < q.1) → (P.map Prod.snd).Nodup → (P.map fun p => if p.1 ∈ C then p.1 else p.2).Nodup := fun P hm hr ha => by
    rw [List.Nodup, List.pairwise_map]
    rw [List.Nodup, List.pairwise_map] at ha
    refine (hr.and ha).imp_of_mem fun {p q} hp hq hpq e => ?_
    have side : ∀ p q : Nat × Nat, p ∈ P → q ∈ P → p.1 ≠ q.2 := fun p q hp hq e => by
      obtain ⟨a, ha, _, _, h1, h2, _⟩ := cross_mem (hm p hp)
      obtain ⟨_, _, b, hb, h3, _, h4⟩ := cross_mem (hm q hq)
      have := h.inj ha hb (h2.trans (e.trans h4.symm))
      subst this
      have := (isP_regs h1).1
      have := (isP_regs h3).2.1
      omega
    have h1 := hpq.1
    have h2 := hpq.2
    split at e <;> split at e
    · omega
    · exact side p q hp hq e
    · exact side q p hq hp e.symm
    · exact h2 e
  have h1 := nodup_le (key P hP.mem hP.rise hP.apart) (D := C) fun x hx => by
    obtain ⟨p, hp, e⟩ := List.mem_map.1 hx
    rw [← e]
    rcases hC p.1 p.2 (hP.mem p hp) with h2 | h2
    · rw [if_pos h2]; exact h2
    · split
      · assumption
      · exact h2
  rw [List.length_map] at h1
  exact h1
end Go.Proofs.YtbieflpgjmgaiaaGreat
/- Walks: the reference's Clashes and Fewest. -/
set_option maxRecDepth 100000
namespace Go.Proofs.YtbieflpgjmgaiaaGreat
open Kuhn
variable {r : Rm}
end Go.Proofs.YtbieflpgjmgaiaaGreat
/- Walks: CheckFalse, of the program and of the reference. -/
set_option maxRecDepth 100000
namespace Go.Proofs.YtbieflpgjmgaiaaGreat
open Kuhn
variable {r : Rm}
theorem rise_ints : ∀ {l : List Int}, (∀ i, 0 < i → i < l.length → l.getD (i - 1) 0 < l.getD i 0) → l.Pairwise (· < ·)
  | [], _ => .nil
  | [a], _ => .cons (fun _ h => nomatch h) .nil
  | a :: b :: l, h => by
    have ih := rise_ints (l := b :: l) fun i h0 h1 => by
      have := h (i + 1) (by omega) (by simpa using h1)
      obtain ⟨k, rfl⟩ : ∃ k, i = k + 1 := ⟨i - 1, by omega⟩
      exact this
    have h1 : a < b := h 1 (by decide) (by simp)
    refine .cons (fun x hx => ?_) ih
    rcases List.mem_cons.1 hx with rfl | hx
    · exact h1
    · exact Int.lt_trans h1 (List.rel_of_pairwise_cons ih hx)
theorem rise_at {l : List Int} (h : l.Pairwise (· < ·)) {i : Nat} (h0 : 0 < i) (hi : i < l.length) : l.getD (i - 1) 0 < l.getD i 0 := by
  rw [getD_get hi, getD_get (show i - 1 < l.length by omega)]
  exact List.pairwise_iff_getElem.1 h (i - 1) i (by omega) hi (by omega)
open Classical in
noncomputable def ckF (c : List Opn) (s : List Int) : Int := if FalseOk c s then 0 else 63
theorem ckF_bad {c : List Opn} {s : List Int} (h : ¬ FalseOk c s) : ckF c s = 63 := if_neg h
theorem ckF_good {c : List Opn} {s : List Int} (h : FalseOk c s) : ckF c s = 0 := if_pos h
open Classical in
noncomputable def ckFE (l : List Opn) (d : Int) (s : List Int) : Int := if askE l d = 0 then ckF (cnt l d nb) s else askE l d
theorem cov_iff {l : List Opn} {d : Int} {X : List Nat} : cross (cnt l d (inX X)) = [] ↔ Cov (edg (cnt l d nb)) X := by
  rw [cnt_inX]
  have h : ∀ f x, (f, x) ∈ cross (lessC (cnt l d nb) X) ↔ edg (cnt l d nb) f x ∧ f ∉ X ∧ x ∉ X := fun f x => by
    show edg (lessC (cnt l d nb) X) f x ↔ _
    rw [edg_less]; rfl
  constructor
  · intro e f x he
    by_cases h1 : f ∈ X
    · exact .inl h1
    · by_cases h2 : x ∈ X
      · exact .inr h2
      · have := (h f x).2 ⟨he, h1, h2⟩
        rw [e] at this; cases this
  · intro hc
    rw [List.eq_nil_iff_forall_not_mem]
    rintro ⟨f, x⟩ hm
    obtain ⟨h1, h2, h3⟩ := (h f x).1 hm
    rcases hc f x h1 with h4 | h4
    · exact h2 h4
    · exact h3 h4
def fckB (l : List Opn) (d : Int) (s : List Int) (i : Nat) : Bool := (fnd l d (s.getD i 0)).isSome && (Nat.beq i 0 || decide (s.getD (i - 1) 0 < s.getD i 0))
theorem fck_all {l : List Opn} {d : Int} {s : List Int} (h : ∀ i, i < s.length → fckB l d s i = true) : (∀ x, x ∈ s → ∃ o, o ∈ cnt l d nb ∧ o.source = x) ∧ s.Pairwise (· < ·) := by
  refine ⟨fun x hx => ?_, rise_ints fun i h0 hi => ?_⟩
  · obtain ⟨i, hi, rfl⟩ := mem_getD (d := 0) hx
    have := h i hi
    unfold fckB at this
    rw [Bool.and_eq_true] at this
    obtain ⟨o, ho⟩ := Option.isSome_iff_exists.1 this.1
    obtain ⟨h1, h2⟩ := fnd_mem ho
    exact ⟨o, h1, h2⟩
  · have := h i hi
    unfold fckB at this
    rw [beq_ne (show i ≠ 0 by omega), Bool.false_or, Bool.and_eq_true, decide_eq_true_iff] at this
    exact this.2
theorem fck_bad {l : List Opn} {d : Int} {s : List Int} (hR : Reg l) {i : Nat} (hi : i < s.length) (h : fckB l d s i = false) : ¬ FalseOk (cnt l d nb) s := fun hF => by
  have : fckB l d s i = true := by
    unfold fckB
    obtain ⟨o, ho, e⟩ := hF.mem _ (getD_mem (d := 0) hi)
    rw [← e, fnd_of hR ho, Option.isSome_some, Bool.true_and]
    by_cases h0 : i = 0
    · subst h0; rfl
    · rw [e, decide_eq_true (rise_at hF.rise (by omega) hi), Bool.or_true]
  rw [this] at h; cases h
theorem fck_len {l : List Opn} {d : Int} {s : List Int} (hR : Reg l) (h1 : ∀ x, x ∈ s → ∃ o, o ∈ cnt l d nb ∧ o.source = x) (h2 : s.Pairwise (· < ·)) : s.length ≤ 60 := by
  have h3 := nodup_le (rise_nodup h2) (D := (cnt l d nb).map (·.source)) fun x hx => by
    obtain ⟨o, ho, e⟩ := h1 x hx
    exact List.mem_map.2 ⟨o, ho, e⟩
  rw [List.length_map] at h3
  exact Nat.le_trans h3 (Vc.len hR rfl)
set_option maxHeartbeats 4000000 in
theorem CheckFalse_ok {b sb : Bool} {l : List Opn} {d : Int} {s : List Int} (hz : SzsW l) (hs : s.length < 9223372036854775808) : VP (sE r) 37 [.p (eOpns b l), iv d, .p (eInts sb s)] (iv (ckFE l d s)) := by
  have hlk := look_ok (r := r) (b := b) (ds := [d]) hz (show 0 < 1 by decide) (show 1 < 1000000 by decide)
  refine VP.of (fn := Tryz.f37) tb_ok (wk_ok rfl) (by kernel_rfl) rfl rfl rfl ?_
  refine VSt.go tb_ok false [] 200 rfl AllP.n ?_
  rcases ask_cases l d with ⟨hR, hd, hE⟩ | ⟨hE, hl⟩
  · have hz := hR.szs
    have bad : ∀ i, i < s.length → fckB l d s i = false → ckFE l d s = 63 := fun i hi h => by
      unfold ckFE; rw [if_pos hE, ckF_bad (fck_bad hR hi h)]
    rw [(look1 (b := b) hR hd).1, (look1 (b := b) hR hd).2] at hlk
    refine VSt.pc rfl rfl rfl rfl rfl rfl rfl rfl ((VP.imp hlk ⟨AImp.refl _, lit1, trivial⟩)) ?_
    refine VSt.go tb_ok false [] 200 rfl AllP.n ?_
    refine VSt.cond rfl (fun h => absurd h (by decide)) (fun _ => ?_)
    refine VSt.go tb_ok false [] 200 rfl AllP.n ?_
    refine VSt.rangeT tb_ok s.length (by omega) [2, 7, 23] (fun _ => []) (fun _ => []) (fun k => ∀ i, i < k → fckB l d s i = true) rfl rfl rfl (fun _ => rfl) rfl rfl u0_nil trivial none0 (fun k hk hp => ?_) (fun hp => ?_)
    · refine VSt.go tb_ok false [] 200 rfl (AllP.c (by assumption) (AllP.c rfl AllP.n)) ?_
      refine VSt.pc rfl rfl rfl rfl rfl rfl rfl rfl ((one_ok (b := b) (d := d) (s.getD k 0) hz)) ?_
      refine VSt.go tb_ok false [] 200 rfl AllP.n ?_
      refine VSt.splitO 38 rfl (fun h1 => ?_) (fun h1 => ?_)
      · have h1 := nt h1
        have hb := bad k hk (by unfold fckB; rw [h1]; rfl)
        refine VSt.go tb_ok false [] 200 rfl AllP.n ?_
        refine EndsP.mk rfl rfl rfl ?_
        rw [hb]; rfl
      have h1 := nf h1
      refine VSt.go tb_ok false [] 200 rfl AllP.n ?_
      refine VSt.splitO 41 rfl (fun a2 => ?_) (fun a2 => ?_)
      · have h0 := n0 a2
        refine VSt.go tb_ok false [45] 200 rfl (AllP.c (by unfold inR; (try simp only [Int.ofNat_eq_natCast]); omega) AllP.n) ?_
        refine VSt.putO 44 (nv (k - 1)) rfl (pred_iv h0) ?_
        refine VSt.go tb_ok false [] 200 rfl (AllP.c (by omega) (AllP.c rfl AllP.n)) ?_
        refine VSt.cond rfl (fun a3 => ?_) (fun a3 => ?_)
        · have a3 : s.getD k 0 ≤ s.getD (k - 1) 0 := of_decide_eq_true a3
          have hb := bad k hk (by unfold fckB; rw [beq_ne (show k ≠ 0 by omega), decide_eq_false (by omega), Bool.false_or, Bool.and_false])
          refine VSt.go tb_ok false [] 200 rfl AllP.n ?_
          refine EndsP.mk rfl rfl rfl ?_
          rw [hb]; rfl
        · have a3 : ¬ s.getD k 0 ≤ s.getD (k - 1) 0 := of_decide_eq_false a3
          refine VSt.go tb_ok false [] 200 rfl AllP.n ?_
          exact ⟨by (refine Vw.drop (by repeat (first | exact wf_nil | refine wf_back rfl rfl rfl ?_ | refine wf_cons rfl (by assumption) (ren_only _ (by assumption)) ?_))), snoc_all hp (by unfold fckB; rw [h1, decide_eq_true (by omega), Bool.or_true]; rfl)⟩
      · have h0 := n0' a2
        refine VSt.go tb_ok false [] 200 rfl AllP.n ?_
        exact ⟨by (refine Vw.drop (by repeat (first | exact wf_nil | refine wf_back rfl rfl rfl ?_ | refine wf_cons rfl (by assumption) (ren_only _ (by assumption)) ?_))), snoc_all hp (by subst h0; unfold fckB; rw [h1]; rfl)⟩
    · obtain ⟨m1, m2⟩ := fck_all hp
      have hlen := fck_len hR m1 m2
      have hpos : ∀ x, x ∈ s → 0 ≤ x := fun x hx => by
        obtain ⟨o, ho, rfl⟩ := m1 x hx
        have := ((hR.cnt d nb).ok o ho).pos
        omega
      have hcr : (cross (cnt l d (inX (natL s)))).length ≤ 3600 := (mg_cross (hR.cnt d (inX (natL s))) (Vc.len hR rfl)).len
      refine VSt.go tb_ok false [54] 200 rfl AllP.n ?_
      refine VSt.putO 53 (.p (eNb sb (natL s))) rfl (natL_imp hpos) ?_
      refine VSt.cc [] rfl rfl rfl rfl rfl rfl rfl rfl rfl rfl rfl (bar_ok (b := b) (l := l) (d := d) (fl := sb) (X := natL s) (by rw [natL_len]; omega)) ?_
      rintro a L' ⟨rfl, rfl⟩
      refine VSt.go tb_ok false [] 200 rfl AllP.n ?_
      refine VSt.cg [(0, 0), (1, 1)] (stc := []) rfl rfl rfl rfl rfl rfl rfl rfl rfl rfl rfl rfl (pairsB_ok (b := b) (d := d) (bar := inX (natL s)) hz hR) ?_
      rintro a L' ⟨rfl, rfl⟩
      refine VSt.go tb_ok false [] 200 rfl AllP.n ?_
      refine VSt.cond rfl (fun h => ?_) (fun h => ?_)
      · have h := n0 h
        have hno : ¬ FalseOk (cnt l d nb) s := fun hF => by
          rw [cov_iff.2 hF.cov] at h; cases h
        refine VSt.go tb_ok false [] 200 rfl AllP.n ?_
        refine EndsP.mk rfl rfl rfl ?_
        show iv _ = iv _
        unfold ckFE; rw [if_pos hE, ckF_bad hno]
      · have h := n0' h
        refine VSt.go tb_ok false [] 200 rfl AllP.n ?_
        refine EndsP.mk rfl rfl rfl ?_
        show iv _ = iv _
        unfold ckFE; rw [if_pos hE, ckF_good ⟨m1, m2, cov_iff.1 (List.length_eq_zero_iff.1 h)⟩]
  · rw [(hl b).1, (hl b).2] at hlk
    refine VSt.pc rfl rfl rfl rfl rfl rfl rfl rfl ((VP.imp hlk ⟨AImp.refl _, lit1, trivial⟩)) ?_
    refine VSt.go tb_ok false [] 200 rfl AllP.n ?_
    refine VSt.cond rfl (fun _ => ?_) (fun h => ?_)
    · refine VSt.go tb_ok false [] 200 rfl AllP.n ?_
      refine EndsP.mk rfl rfl rfl ?_
      show iv _ = iv _
      unfold ckFE; rw [if_neg hE]
    · have h : (!(askE l d == 0)) = false := h
      exact absurd (by simpa using h) hE
end Go.Proofs.YtbieflpgjmgaiaaGreat
/- Walks: CheckPairs, of the program and of the reference. -/
set_option maxRecDepth 100000
namespace Go.Proofs.YtbieflpgjmgaiaaGreat
open Kuhn
variable {r : Rm}
def eqP (p : Int × Int) (q : Nat × Nat) : Bool := Int.ofNat q.1 == p.1 && Int.ofNat q.2 == p.2
def hasZ (Q : List (Nat × Nat)) (p : Int × Int) : Bool := Q.any (eqP p)
theorem hasZ_cases (Q : List (Nat × Nat)) (p : Int × Int) : hasZ Q p = false ∨ ∃ a y, hasZ Q p = true ∧ p = (Int.ofNat a, Int.ofNat y) := by
  cases h : hasZ Q p with
  | false => exact .inl rfl
  | true =>
    obtain ⟨q, _, h2⟩ := List.any_eq_true.1 h
    unfold eqP at h2
    rw [Bool.and_eq_true, beq_iff_eq, beq_iff_eq] at h2
    exact .inr ⟨q.1, q.2, rfl, by rw [h2.1, h2.2]⟩
theorem idxP_ok {Q : List (Nat × Nat)} (p : Int × Int) (hn : Q.length < 1000000) : VP (sE r) 122 [.p (ePairs Q), .agg [iv p.1, iv p.2]] (iv (match Q.findIdx? (eqP p) with | some k => k | none => -1)) := by
  refine VP.of (fn := Tryz.f122) tb_ok (wk_ok rfl) (by kernel_rfl) rfl rfl rfl ?_
  refine VSt.go tb_ok false [] 200 rfl AllP.n ?_
  refine VSt.viewC (Vw.freezeC 0 [.int .i64 p.1, .int .i64 p.2] rfl rfl) ?_
  refine VSt.rangeT tb_ok Q.length (by omega) [0, 3, 6] (fun _ => []) (fun _ => []) (fun k => ∀ i, i < k → eqP p (Q.getD i (0, 0)) = false) rfl rfl rfl (fun _ => rfl) rfl rfl u0_nil trivial none0 (fun k hk hp => ?_) (fun hp => ?_)
  · have e0 : (p.1 == Int.ofNat (Q.getD k (0, 0)).1 && (p.2 == Int.ofNat (Q.getD k (0, 0)).2 && true)) = eqP p (Q.getD k (0, 0)) := by
      unfold eqP
      rw [Bool.and_true, @BEq.comm _ _ _ p.1, @BEq.comm _ _ _ p.2]
    refine VSt.go tb_ok false [] 200 rfl (AllP.c (by assumption) (AllP.c rfl AllP.n)) ?_
    refine VSt.cond rfl (fun hc => ?_) (fun hc => ?_)
    · have hc : eqP p (Q.getD k (0, 0)) = true := by rw [← e0]; exact hc
      have : Q.findIdx? (eqP p) = some k := by
        rw [List.findIdx?_eq_some_iff_getElem]
        refine ⟨hk, by rw [getD_get hk] at hc; exact hc, fun j hj => ?_⟩
        have := hp j hj
        rw [getD_get (by omega)] at this
        rw [this]; decide
      refine VSt.go tb_ok false [] 200 rfl AllP.n ?_
      refine EndsP.mk rfl rfl rfl ?_
      show iv _ = iv _
      rw [this]; rfl
    · have hc : eqP p (Q.getD k (0, 0)) = false := by rw [← e0]; exact hc
      refine VSt.go tb_ok false [] 200 rfl AllP.n ?_
      exact ⟨by (refine Vw.drop (by repeat (first | exact wf_nil | refine wf_back rfl rfl rfl ?_ | refine wf_cons rfl (by assumption) (ren_only _ (by assumption)) ?_))), snoc_all hp hc⟩
  · have : Q.findIdx? (eqP p) = none := by
      rw [List.findIdx?_eq_none_iff]
      intro x hx
      obtain ⟨k, hk, rfl⟩ := mem_getD (d := (0, 0)) hx
      exact hp k hk
    refine VSt.go tb_ok false [] 200 rfl AllP.n ?_
    refine EndsP.mk rfl rfl rfl ?_
    show iv _ = iv _
    rw [this]
theorem contP_ok {Q : List (Nat × Nat)} (p : Int × Int) (hn : Q.length < 1000000) : VP (sE r) 89 [.p (ePairs Q), .agg [iv p.1, iv p.2]] (bv (hasZ Q p)) := by
  refine VP.of (fn := Tryz.f89) tb_ok (wk_ok rfl) (by kernel_rfl) rfl rfl rfl ?_
  refine VSt.go tb_ok false [] 200 rfl AllP.n ?_
  refine VSt.pc rfl rfl rfl rfl rfl rfl rfl rfl ((idxP_ok (Q := Q) p hn)) ?_
  refine VSt.go tb_ok false [] 200 rfl AllP.n ?_
  refine EndsP.mk rfl rfl rfl ?_
  show bv _ = bv _
  congr 2
  unfold hasZ
  cases h : Q.findIdx? (eqP p) with
  | none =>
    rw [List.findIdx?_eq_none_iff] at h
    have : Q.any (eqP p) = false := by
      rw [List.any_eq_false]
      exact fun x hx => by rw [h x hx]; decide
    rw [this]; rfl
  | some k =>
    have : Q.any (eqP p) = true := by
      rw [List.findIdx?_eq_some_iff_getElem] at h
      obtain ⟨hk, h, _⟩ := h
      exact List.any_eq_true.2 ⟨_, List.getElem_mem hk, h⟩
    rw [this]; exact decide_eq_true (Int.natCast_nonneg k)
def eZs (b : Bool) (P : List (Int × Int)) : PV := .lst 69 b P.length fun k => [.int .i64 (P.getD k (0, 0)).1, .int .i64 (P.getD k (0, 0)).2]
def usdB (P : List (Int × Int)) (k : Nat) (y : Int) : Bool := (P.take k).any fun p => p.2 == y
def usdP (P : List (Int × Int)) (k : Nat) : Nat → Option PV := fun y => bif usdB P k (Int.ofNat y) then some (.bool true) else none
theorem takeZ {P : List (Int × Int)} {k : Nat} (h : k < P.length) : P.take (k + 1) = P.take k ++ [P.getD k (0, 0)] := by
  rw [List.take_add_one, List.getElem?_eq_getElem h, getD_get h]; rfl
theorem usd_succ {P : List (Int × Int)} {k : Nat} (h : k < P.length) (y : Int) : usdB P (k + 1) y = (usdB P k y || (P.getD k (0, 0)).2 == y) := by
  unfold usdB
  rw [takeZ h, List.any_append]
  simp
theorem usd_not {P : List (Int × Int)} {k : Nat} (hk : k ≤ P.length) {y : Int} (h : ∀ i, i < k → ((P.getD i (0, 0)).2 == y) = false) : usdB P k y = false := by
  unfold usdB
  rw [List.any_eq_false]
  intro x hx
  obtain ⟨i, hi, e⟩ := List.mem_iff_getElem.1 hx
  rw [List.length_take] at hi
  rw [List.getElem_take] at e
  have := h i (by omega)
  rw [getD_get (by omega), e] at this
  rw [this]; decide
def goodB (Q : List (Nat × Nat)) (P : List (Int × Int)) (k : Nat) : Bool := hasZ Q (P.getD k (0, 0)) && (!usdB P k (P.getD k (0, 0)).2 && (Nat.beq k 0 || decide ((P.getD (k - 1) (0, 0)).1 < (P.getD k (0, 0)).1)))
def ckP (Q : List (Nat × Nat)) (P : List (Int × Int)) : Int := if allB (goodB Q P) P.length then 0 else 64
theorem ckP_bad {Q : List (Nat × Nat)} {P : List (Int × Int)} {k : Nat} (hk : k < P.length) (h : goodB Q P k = false) : ckP Q P = 64 := by
  unfold ckP; rw [allB_not hk h]; rfl
theorem ckP_good {Q : List (Nat × Nat)} {P : List (Int × Int)} (h : ∀ k, k < P.length → goodB Q P k = true) : ckP Q P = 0 := by
  unfold ckP; rw [allB_iff.2 h]; rfl
open Classical in
noncomputable def ckPE (l : List Opn) (d : Int) (P : List (Int × Int)) : Int := if askE l d = 0 then ckP (cross (cnt l d nb)) P else askE l d
set_option maxHeartbeats 4000000 in
theorem CheckPairs_ok {b pb : Bool} {l : List Opn} {d : Int} {P : List (Int × Int)} (hz : SzsW l) (hs : P.length < 9223372036854775808) : VP (sE r) 39 [.p (eOpns b l), iv d, .p (eZs pb P)] (iv (ckPE l d P)) := by
  have hlk := look_ok (r := r) (b := b) (ds := [d]) hz (show 0 < 1 by decide) (show 1 < 1000000 by decide)
  refine VP.of (fn := Tryz.f39) tb_ok (wk_ok rfl) (by kernel_rfl) rfl rfl rfl ?_
  refine VSt.go tb_ok false [] 200 rfl AllP.n ?_
  rcases ask_cases l d with ⟨hR, hd, hE⟩ | ⟨hE, hl⟩
  · have hz := hR.szs
    have eq : ckPE l d P = ckP (cross (cnt l d nb)) P := if_pos hE
    have hcr : (cross (cnt l d nb)).length ≤ 3600 := (mg_cross (hR.cnt d nb) (Vc.len hR rfl)).len
    rw [(look1 (b := b) hR hd).1, (look1 (b := b) hR hd).2] at hlk
    refine VSt.pc rfl rfl rfl rfl rfl rfl rfl rfl ((VP.imp hlk ⟨AImp.refl _, lit1, trivial⟩)) ?_
    refine VSt.go tb_ok false [] 200 rfl AllP.n ?_
    refine VSt.cond rfl (fun h => absurd h (by decide)) (fun _ => ?_)
    refine VSt.go tb_ok false [] 200 rfl AllP.n ?_
    refine VSt.pc rfl rfl rfl rfl rfl rfl rfl rfl ((pairs_ok (b := b) (d := d) hz hR)) ?_
    rw [eq]
    generalize cross (cnt l d nb) = Q at *
    refine VSt.go tb_ok false [] 200 rfl AllP.n ?_
    refine VSt.rangeT tb_ok P.length (by omega) [2, 9, 10, 26] (fun _ => []) (fun k => [(0, .mapA none (usdP P k) [])]) (fun k => ∀ i, i < k → goodB Q P i = true) rfl rfl rfl (fun _ => rfl) rfl rfl u0_nil ⟨rfl, BImp.mapP (.inr rfl) (fun _ => rfl), trivial⟩ none0 (fun k hk hp => ?_) (fun hp => ?_)
    · have hc := contP_ok (r := r) (Q := Q) (P.getD k (0, 0)) (by omega)
      refine Or.elim (hasZ_cases Q (P.getD k (0, 0))) (fun h1 => ?_) (fun h1 => Exists.elim h1 fun a h1 => Exists.elim h1 fun y h1 => ?_)
      · have hb := ckP_bad hk (by unfold goodB; rw [h1]; rfl)
        rw [h1] at hc
        refine VSt.go tb_ok false [] 200 rfl (AllP.c (by assumption) (AllP.c rfl AllP.n)) ?_
        refine VSt.pcD rfl rfl rfl rfl rfl rfl rfl rfl (hc) ?_
        refine VSt.go tb_ok false [] 200 rfl AllP.n ?_
        refine VSt.splitD 37 rfl (fun h0 => ?_) (fun h0 => ?_)
        rotate_left
        · exact absurd h0 (by decide)
        refine VSt.go tb_ok false [] 200 rfl AllP.n ?_
        refine EndsP.mk rfl rfl rfl ?_
        rw [hb]; rfl
      · have e := h1.2
        have h1 := h1.1
        rw [h1, e] at hc
        have hg : goodB Q P k = (!usdB P k (Int.ofNat y) && (Nat.beq k 0 || decide ((P.getD (k - 1) (0, 0)).1 < Int.ofNat a))) := by
          unfold goodB; rw [h1, e]; rfl
        refine VSt.go tb_ok false [12] 200 rfl (AllP.c (by assumption) (AllP.c rfl AllP.n)) ?_
        refine VSt.putO 32 (.agg [nv a, nv y]) rfl (AImp.of_eq (by show AV.agg [iv (P.getD k (0, 0)).1, iv (P.getD k (0, 0)).2] = _; rw [e])) ?_
        refine VSt.go tb_ok false [] 200 rfl AllP.n ?_
        refine VSt.pcD rfl rfl rfl rfl rfl rfl rfl rfl (hc) ?_
        refine VSt.go tb_ok false [] 200 rfl AllP.n ?_
        refine VSt.splitD 37 rfl (fun h0 => ?_) (fun h0 => ?_)
        · exact absurd h0 (by decide)
        refine VSt.go tb_ok false [42] 200 rfl AllP.n ?_
        refine VSt.putD 41 (bv (usdB P k (Int.ofNat y))) rfl (AImp.of_eq (by show AV.p ((usdP P k _).getD _) = _; unfold usdP; cases usdB P k (Int.ofNat y) <;> rfl)) ?_
        refine VSt.go tb_ok false [] 200 rfl AllP.n ?_
        refine VSt.splitD 43 rfl (fun h2 => ?_) (fun h2 => ?_)
        · have h2 : usdB P k (Int.ofNat y) = true := h2
          have hb := ckP_bad hk (by rw [hg, h2]; rfl)
          refine VSt.go tb_ok false [] 200 rfl AllP.n ?_
          refine EndsP.mk rfl rfl rfl ?_
          rw [hb]; rfl
        have h2 : usdB P k (Int.ofNat y) = false := h2
        have hu : ∀ q, (bif Nat.beq y q then some (PV.bool true) else usdP P k q) = usdP P (k + 1) q := fun q => by
          unfold usdP
          rw [usd_succ hk, e]
          cases hb : Nat.beq y q with
          | true => have := beq_eq hb; subst this; rw [beq_self_eq_true, Bool.or_true]; rfl
          | false =>
            have hne : ¬ y = q := fun e => by subst e; rw [Nat.beq_refl] at hb; cases hb
            have e3 : ((Int.ofNat a, Int.ofNat y).2 == Int.ofNat q) = false := beq_false_of_ne (fun e => hne (Int.ofNat_inj.1 e))
            rw [e3, Bool.or_false]; rfl
        refine VSt.go tb_ok false [] 200 rfl AllP.n ?_
        refine VSt.splitD 46 rfl (fun a2 => ?_) (fun a2 => ?_)
        · have h0 := n0 a2
          refine VSt.go tb_ok false [50] 200 rfl (AllP.c (by unfold inR; (try simp only [Int.ofNat_eq_natCast]); omega) AllP.n) ?_
          refine VSt.putD 49 (nv (k - 1)) rfl (pred_iv h0) ?_
          refine VSt.go tb_ok false [] 200 rfl (AllP.c (by omega) (AllP.c rfl AllP.n)) ?_
          refine VSt.cond rfl (fun a3 => ?_) (fun a3 => ?_)
          · have a3 : Int.ofNat a ≤ (P.getD (k - 1) (0, 0)).1 := of_decide_eq_true a3
            have hb := ckP_bad hk (by rw [hg, beq_ne (show k ≠ 0 by omega), decide_eq_false (by omega), Bool.false_or, Bool.and_false])
            refine VSt.go tb_ok false [] 200 rfl AllP.n ?_
            refine EndsP.mk rfl rfl rfl ?_
            rw [hb]; rfl
          · have a3 : ¬ Int.ofNat a ≤ (P.getD (k - 1) (0, 0)).1 := of_decide_eq_false a3
            refine VSt.go tb_ok false [] 200 rfl AllP.n ?_
            refine ⟨?_, snoc_all hp (by rw [hg, h2, decide_eq_true (by omega), Bool.or_true]; rfl)⟩
            dsimp only
            refine Wk.vw (ps := [(0, 0)]) ⟨rfl, rfl, (by repeat (first | exact wf_nil | refine wf_back rfl rfl rfl ?_)), _, rfl, (⟨rfl, BImp.mapP (.inr rfl) hu, trivial⟩)⟩
        · have h0 := n0' a2
          refine VSt.go tb_ok false [] 200 rfl AllP.n ?_
          refine ⟨?_, snoc_all hp (by rw [hg, h2]; subst h0; rfl)⟩
          dsimp only
          refine Wk.vw (ps := [(0, 0)]) ⟨rfl, rfl, (by repeat (first | exact wf_nil | refine wf_back rfl rfl rfl ?_)), _, rfl, (⟨rfl, BImp.mapP (.inr rfl) hu, trivial⟩)⟩
    · have hg := ckP_good hp
      refine VSt.go tb_ok false [] 200 rfl AllP.n ?_
      refine EndsP.mk rfl rfl rfl ?_
      rw [hg]; rfl
  · rw [(hl b).1, (hl b).2] at hlk
    refine VSt.pc rfl rfl rfl rfl rfl rfl rfl rfl ((VP.imp hlk ⟨AImp.refl _, lit1, trivial⟩)) ?_
    refine VSt.go tb_ok false [] 200 rfl AllP.n ?_
    refine VSt.cond rfl (fun _ => ?_) (fun h => ?_)
    · refine VSt.go tb_ok false [] 200 rfl AllP.n ?_
      refine EndsP.mk rfl rfl rfl ?_
      show iv _ = iv _
      unfold ckPE; rw [if_neg hE]
    · have h : (!(askE l d == 0)) = false := h
      exact absurd (by simpa using h) hE
def zP (P : List (Nat × Nat)) : List (Int × Int) := P.map fun p => (Int.ofNat p.1, Int.ofNat p.2)
theorem zP_at {P : List (Nat × Nat)} {k : Nat} (h : k < P.length) : (zP P).getD k (0, 0) = (Int.ofNat (P.getD k (0, 0)).1, Int.ofNat (P.getD k (0, 0)).2) := by
  unfold zP
  rw [getD_get (by rw [List.length_map]; exact h), List.getElem_map, getD_get h]
theorem PairsOk.ck {c : List Opn} {P : List (Nat × Nat)} (h : PairsOk c P) : ckP (cross c) (zP P) = 0 := by
  refine ckP_good fun k hk => ?_
  have hk : k < P.length := by unfold zP at hk; rw [List.length_map] at hk; exact hk
  have hl : (zP P).length = P.length := by unfold zP; rw [List.length_map]
  unfold goodB
  rw [zP_at hk]
  have h1 : hasZ (cross c) (Int.ofNat (P.getD k (0, 0)).1, Int.ofNat (P.getD k (0, 0)).2) = true := List.any_eq_true.2 ⟨_, h.mem _ (getD_mem (d := (0, 0)) hk), by unfold eqP; simp⟩
  have h2 : usdB (zP P) k (Int.ofNat (P.getD k (0, 0)).2) = false := usd_not (by omega) fun i hi => by
    rw [zP_at (by omega)]
    refine beq_false_of_ne fun e => ?_
    have e := Int.ofNat_inj.1 e
    have ha := h.apart
    rw [List.Nodup, List.pairwise_map] at ha
    refine List.pairwise_iff_getElem.1 ha i k (by omega) hk hi ?_
    rw [getD_get (by omega), getD_get hk] at e
    exact e
  have h3 : (Nat.beq k 0 || decide (((zP P).getD (k - 1) (0, 0)).1 < Int.ofNat (P.getD k (0, 0)).1)) = true := by
    by_cases h0 : k = 0
    · subst h0; rfl
    · have := List.pairwise_iff_getElem.1 h.rise (k - 1) k (by omega) hk (by omega)
      rw [zP_at (by omega), getD_get hk, getD_get (show k - 1 < P.length by omega), decide_eq_true (by simp only [Int.ofNat_eq_natCast]; omega), Bool.or_true]
  rw [h1, h2, h3]; rfl
end Go.Proofs.YtbieflpgjmgaiaaGreat
/- Walks: a reading of the program. -/
set_option maxRecDepth 100000
namespace Go.Proofs.YtbieflpgjmgaiaaGreat
open Kuhn
variable {r : Rm}
theorem cloneT_ok {b : Bool} {l : List Int} (hb : b = true → l = []) (hb2 : l.length = 0 → b = true) (hn : l.length < 1000000) : VC (sE r) [] 109 [.p (eInts b l)] [] (fun a L => a = .acc true 0 1 l.length ∧ L = [(0, .acc l.length 1 (fL l) 3)]) := by
  intro S Z j vs h1 h2 h3
  obtain ⟨n, v, S', k1, a, L', Z', j', k2, k3, k4, k5, k6, rfl, rfl⟩ := cloneA_ok hb hn S Z j vs h1 h2 h3
  exact ⟨n, v, S', k1, _, _, Z', j', k2, AImp.acc rfl hb2 _ _ _ _ _ k3, k4, k5, k6, rfl, rfl⟩
theorem cloneS_ok {b : Bool} {l : List Int} (hb : b = true → l = []) (h0 : ¬ l.length = 0) (hn : l.length < 1000000) : VC (sE r) [] 109 [.p (eInts b l)] [] (fun a L => a = .sl 0 1 0 l.length l.length 0 ∧ L = [(0, .arr l.length 1 (fL l) 3)]) := by
  intro S Z j vs h1 h2 h3
  obtain ⟨n, v, S', k1, a, L', Z', j', k2, k3, k4, k5, k6, rfl, rfl⟩ := cloneA_ok hb hn S Z j vs h1 h2 h3
  exact ⟨n, v, S', k1, _, _, Z', j', SR.imp (L' := [(0, .arr l.length 1 (fL l) 3)]) k2 ⟨rfl, BImp.accArr (by omega) rfl (fun _ _ => rfl), trivial⟩, AImp.accSl (by omega) rfl rfl _ _ _ _ _ k3, k4, k5, k6, rfl, rfl⟩
theorem AImp.accNil {i sz ty : Nat} {f : Nat → List PV} : AImp (.acc true i sz 0) (.p (.lst ty true 0 f)) := fun E S Z j v hv => by
  cases hv with
  | accN => exact .p (.nil _ _)
def snc (Y : List Int) (s : Int) : List Int := Y ++ [s]
theorem snc_len {Y : List Int} {s : Int} : (snc Y s).length = Y.length + 1 := by unfold snc; rw [List.length_append]; rfl
theorem one_cl {s : Int} (x : Nat) (h : x < 1) : List.take 1 (List.drop (x * 1) [PV.int .i64 s]) = fL (snc [] s) x := by
  have : x = 0 := by omega
  subst this; rfl
theorem app_cl {l : List Int} {y : Int} (q : Nat) (hq : q < l.length + 1) : (bif Nat.blt q l.length then fL l (0 + q) else ([PV.int .i64 y].drop ((q - l.length) * 1)).take 1) = fL (snc l y) q := by
  rw [Nat.zero_add]; exact app_int l y q hq
def bz (l : List Int) : Bool := true && Nat.beq l.length 0
theorem bz_nil {l : List Int} (h : bz l = true) : l = [] := List.length_eq_zero_iff.1 (Nat.eq_of_beq_eq_true h)
theorem bz_zero {l : List Int} (h : l.length = 0) : bz l = true := by unfold bz; rw [h]; rfl
def canF (b : Bool) (l : List Opn) (d : Int) : AV := .fn 67 [.p (knP b l d)] []
def memR (b : Bool) (l : List Opn) (d : Int) (st : List Int × List Int) : VS := [(5, .cells [canF b l d] 37), (4, .acc st.1.length 1 (fL st.1) 3), (3, .cells [.acc true 4 1 st.1.length] 32), (2, .acc st.2.length 1 (fL st.2) 3), (1, .cells [.acc true 2 1 st.2.length] 32)]
set_option maxHeartbeats 4000000 in
theorem read_ok {b : Bool} {l : List Opn} {d : Int} (hz : Szs l) (hR : Reg l) : VP (sE r) 90 [.p (knP b l d)] (.p (eInts (rdK l d l.length).2.isEmpty (rdK l d l.length).2)) := by
  have hn := hz.len
  have hl := hR.len
  refine VP.of (fn := Tryz.f90) tb_ok (wk_ok rfl) (by kernel_rfl) rfl rfl rfl ?_
  refine VSt.go tb_ok false [] 200 rfl AllP.n ?_
  refine VSt.pc rfl rfl rfl rfl rfl rfl rfl rfl ((counting_ok b l d)) ?_
  refine VSt.go tb_ok false [] 200 rfl AllP.n ?_
  refine VSt.viewC (Vw.kp [3, 4, 5, 10] [(0, 0), (1, 1), (2, 2)] rfl) ?_
  refine VSt.viewC (Vw.adopt 3 1 (fL []) 3 rfl) ?_
  refine VSt.viewC (Vw.adopt 4 1 (fL []) 3 rfl) ?_
  refine VSt.viewC (Wk.vw (ps := [(0, 0), (1, 3), (2, 1), (3, 4), (4, 2)]) (F0 := [(3, .ref 0 0), (4, .ref 2 0), (5, .ref 4 0), (10, knF b l d)]) (L0 := [(0, .cells [.acc true 1 1 0] 32), (1, .acc 0 1 (fL []) 3), (2, .cells [.acc true 3 1 0] 32), (3, .acc 0 1 (fL []) 3), (4, .cells [canF b l d] 37)]) ⟨rfl, rfl, (by repeat (first | exact wf_nil | refine wf_back rfl rfl rfl ?_)), _, rfl, ⟨rfl, BImp.cell1 AImp.nilAcc, rfl, BImp.refl _, rfl, BImp.cell1 AImp.nilAcc, rfl, BImp.refl _, rfl, BImp.refl _, trivial⟩⟩) ?_
  refine VSt.rangeFuncG [(0, 5), (5, 4), (4, 3), (3, 2), (2, 1), (1, 0)] (stc := [0, 1, 3, 5]) rfl rfl rfl rfl rfl rfl rfl rfl (cnt1_ok (b := b) (l := l) (d := d) (by omega) (G1 := fun k => (11, .agg ((eOpn (nth l k)).map .p)) :: [(3, .ref 1 0), (4, .ref 3 0), (5, .ref 5 0), (10, knF b l d)]) [1, 3, 5]
    (fun k L => L = memR b l d (rdK l d k)) (fun _ => False) rfl (fun _ => rfl) ?_ ?_) ?_
  · rintro k L hk hc rfl
    rw [rdK_f hk hc]
  · rintro k L hk hc rfl
    have hI := (rd_take (d := d) hR k).1
    have hP := (rd_take (d := d) hR k).2
    have hPl : ((l.take k).filter fun o => counts o d).length ≤ 60 := Nat.le_trans (List.length_filter_le _ _) (Nat.le_trans (List.length_take_le' ..) hl)
    have hly : (rdK l d k).1.length ≤ 60 := Nat.le_trans hI.len.1 hPl
    have hlx : (rdK l d k).2.length ≤ 60 := Nat.le_trans hI.len.2 hPl
    have hxp := hI.xpos hR hP
    have e := rdK_t hk hc
    generalize rdK l d k = st at *
    obtain ⟨Y, X⟩ := st
    have hly : Y.length ≤ 60 := hly
    have hlx : X.length ≤ 60 := hlx
    refine VSt.go tb_ok false [6] 200 rfl AllP.n ?_
    refine VSt.aside (eOpn (nth l k)) tb_ok rfl rfl rfl rfl rfl rfl rfl rfl rfl rfl rfl ?_
    refine VSt.go tb_ok false [] 200 rfl AllP.n ?_
    refine ⟨rfl, _, rfl, ?_⟩
    have hN : (snc Y (nth l k).source).length = Y.length + 1 := snc_len
    have hM : (snc X (nth l k).source).length = X.length + 1 := snc_len
    have hcan : VP (sE r) 67 [.p (knP b l d), .p (.lst 3 false (snc Y (nth l k).source).length fun x => fL (snc Y (nth l k).source) (0 + x)), .p (eInts (bz X) X)] (bv (canB l d (snc Y (nth l k).source) X)) := VP.imp (can_ok (r := r) (b := b) (l := l) (d := d) (fy := false) (fx := bz X) (Y := snc Y (nth l k).source) (X := X) hz hR bz_nil hxp (by omega) (by omega)) ⟨AImp.refl _, AImp.lst fun k hk => by rw [Nat.zero_add]; rfl, AImp.refl _, trivial⟩
    refine VSt.go tb_ok false [] 200 rfl AllP.n ?_
    by_cases h0 : Y.length = 0
    case pos =>
      have hY : Y = [] := List.length_eq_zero_iff.1 h0
      subst hY
      refine VSt.lookD (first := []) (cap := []) (args := [.p (eInts (bz []) [])]) (Vw.trans (Wk.vw (ps := [(4, 4)]) (F0 := [(13, .acc true 4 1 0)]) (L0 := [(4, .acc 0 1 (fL []) 3)]) ⟨rfl, rfl, (by repeat (first | exact wf_nil | refine wf_back rfl rfl rfl ?_)), _, rfl, LImp.refl _⟩) (Vw.freezeA 4 rfl rfl ⟨Nat.le_refl _, rfl⟩)) rfl rfl rfl rfl rfl rfl rfl (cloneT_ok bz_nil bz_zero (by decide)) (fun a L' h => by rw [h.1, h.2]; exact ⟨rfl, fun k hk => rfl, trivial⟩) ?_
      rintro a L' ⟨rfl, rfl⟩
      refine VSt.putD 14 (.p (.lst 3 true 0 fun _ => [])) rfl AImp.accNil ?_
      refine VSt.go tb_ok false [] 200 rfl (AllP.c (by omega) (AllP.c (by omega) (AllP.c (fun q hq => match q, hq with | 0, _ => rfl) AllP.n))) ?_
      refine VSt.lookD (R := fun a L => a = bv (canB l d (snc [] (nth l k).source) X) ∧ L = []) (first := [.p (knP b l d)]) (cap := []) (args := [.p (.lst 3 false (snc [] (nth l k).source).length fun x => fL (snc [] (nth l k).source) (0 + x)), .p (eInts (bz X) X)]) (Vw.trans (Wk.vw (ps := [(2, 2), (7, 7)]) (F0 := [(12, canF b l d), (18, .sl 7 1 0 (snc [] (nth l k).source).length (snc [] (nth l k).source).length 0), (19, .acc true 2 1 X.length)]) (L0 := [(2, .acc X.length 1 (fL X) 3), (7, .arr (snc [] (nth l k).source).length 1 (fL (snc [] (nth l k).source)) 3)]) ⟨rfl, rfl, wf_back rfl rfl rfl (wf_imp rfl rfl (AImp.slE hN.symm hN.symm) (wf_back rfl rfl rfl wf_nil)), _, rfl, ⟨rfl, BImp.refl _, rfl, BImp.arr' hN.symm (fun x hx => one_cl x hx), trivial⟩⟩) (Vw.trans (Vw.freeze 7 rfl rfl ⟨Nat.le_of_eq (Nat.zero_add _), Nat.le_refl _, rfl⟩) (Vw.freezeA 2 rfl rfl ⟨Nat.le_refl _, rfl⟩))) rfl rfl rfl rfl rfl rfl rfl hcan.2 (fun a L' h => by rw [h.1, h.2]; exact ⟨rfl, trivial⟩) ?_
      rintro a L' ⟨rfl, rfl⟩
      refine VSt.go tb_ok false [] 200 rfl AllP.n ?_
      refine VSt.cond rfl (fun h1 => ?_) (fun h1 => ?_)
      · have h1 : canB l d (snc [] (nth l k).source) X = true := h1
        have e2 : rdK l d (k + 1) = (snc [] (nth l k).source, X) := by
          rw [e]; unfold rdS; show (bif canB l d (snc [] (nth l k).source) X then _ else _) = _; rw [h1]; rfl
        refine VSt.go tb_ok false [] 200 rfl (AllP.c (by omega) (AllP.c (by omega) (AllP.c (fun q hq => match q, hq with | 0, _ => rfl) (AllP.c (by assumption) (AllP.c (by assumption) (AllP.c (by assumption) AllP.n)))))) ?_
        rw [e2]
        exact .inl ⟨rfl, [], _, by refine Wk.vw (ps := [(0, 0), (5, 5), (4, 8), (3, 3), (2, 2), (1, 1)]) ⟨rfl, rfl, (by repeat (first | exact wf_nil | refine wf_back rfl rfl rfl ?_)), _, rfl, (⟨rfl, BImp.refl _, rfl, BImp.refl _, rfl, BImp.acc hN.symm (fun x hx => app_int _ _ x hx), rfl, BImp.cell1 (AImp.acc hN.symm (fun _ => rfl)), rfl, BImp.refl _, rfl, BImp.refl _, trivial⟩)⟩, rfl⟩
      · have h1 : canB l d (snc [] (nth l k).source) X = false := h1
        have e2 : rdK l d (k + 1) = ([], snc X (nth l k).source) := by
          rw [e]; unfold rdS; show (bif canB l d (snc [] (nth l k).source) X then _ else _) = _; rw [h1]; rfl
        refine VSt.go tb_ok false [] 200 rfl (AllP.c (by omega) (AllP.c (by omega) (AllP.c (fun q hq => match q, hq with | 0, _ => rfl) (AllP.c (by assumption) (AllP.c (by assumption) (AllP.c rfl AllP.n)))))) ?_
        rw [e2]
        exact .inl ⟨rfl, [], _, by refine Wk.vw (ps := [(0, 0), (5, 5), (4, 4), (3, 3), (2, 8), (1, 1)]) ⟨rfl, rfl, (by repeat (first | exact wf_nil | refine wf_back rfl rfl rfl ?_)), _, rfl, (⟨rfl, BImp.refl _, rfl, BImp.refl _, rfl, BImp.refl _, rfl, BImp.refl _, rfl, BImp.acc hM.symm (fun x hx => app_int _ _ x hx), rfl, BImp.cell1 (AImp.acc hM.symm (fun _ => rfl)), trivial⟩)⟩, rfl⟩
    case neg =>
      refine VSt.lookDN (first := []) (cap := []) (args := [.p (eInts (bz Y) Y)]) (Vw.trans (Wk.vw (ps := [(4, 4)]) (F0 := [(13, .acc true 4 1 Y.length)]) (L0 := [(4, .acc Y.length 1 (fL Y) 3)]) ⟨rfl, rfl, (by repeat (first | exact wf_nil | refine wf_back rfl rfl rfl ?_)), _, rfl, LImp.refl _⟩) (Vw.freezeA 4 rfl rfl ⟨Nat.le_refl _, rfl⟩)) rfl rfl rfl rfl rfl rfl rfl (cloneS_ok bz_nil h0 (by omega)) (fun a L' h => by rw [h.1, h.2]; exact ⟨rfl, fun k hk => rfl, trivial⟩) (fun a L' h => by rw [h.2]; exact ⟨_, rfl, fun h => h⟩) ?_
      rintro a L' ⟨rfl, rfl⟩
      refine VSt.go tb_ok false [] 200 rfl (AllP.c (by omega) (AllP.c (by omega) (AllP.c (fun q hq => match q, hq with | 0, _ => rfl) (AllP.c rfl (AllP.c rfl (AllP.c (by omega) (AllP.c (by omega) AllP.n))))))) ?_
      refine VSt.lookD (R := fun a L => a = bv (canB l d (snc Y (nth l k).source) X) ∧ L = []) (first := [.p (knP b l d)]) (cap := []) (args := [.p (.lst 3 false (snc Y (nth l k).source).length fun x => fL (snc Y (nth l k).source) (0 + x)), .p (eInts (bz X) X)]) (Vw.trans (Wk.vw (ps := [(2, 2), (7, 7)]) (F0 := [(12, canF b l d), (18, .sl 7 1 0 (snc Y (nth l k).source).length (snc Y (nth l k).source).length 0), (19, .acc true 2 1 X.length)]) (L0 := [(2, .acc X.length 1 (fL X) 3), (7, .arr (snc Y (nth l k).source).length 1 (fL (snc Y (nth l k).source)) 3)]) ⟨rfl, rfl, wf_back rfl rfl rfl (wf_imp rfl rfl (AImp.slE hN.symm hN.symm) (wf_back rfl rfl rfl wf_nil)), _, rfl, ⟨rfl, BImp.refl _, rfl, BImp.arr' hN.symm (fun x hx => app_cl x hx), trivial⟩⟩) (Vw.trans (Vw.freeze 7 rfl rfl ⟨Nat.le_of_eq (Nat.zero_add _), Nat.le_refl _, rfl⟩) (Vw.freezeA 2 rfl rfl ⟨Nat.le_refl _, rfl⟩))) rfl rfl rfl rfl rfl rfl rfl hcan.2 (fun a L' h => by rw [h.1, h.2]; exact ⟨rfl, trivial⟩) ?_
      rintro a L' ⟨rfl, rfl⟩
      refine VSt.go tb_ok false [] 200 rfl AllP.n ?_
      refine VSt.cond rfl (fun h1 => ?_) (fun h1 => ?_)
      · have h1 : canB l d (snc Y (nth l k).source) X = true := h1
        have e2 : rdK l d (k + 1) = (snc Y (nth l k).source, X) := by
          rw [e]; unfold rdS; show (bif canB l d (snc Y (nth l k).source) X then _ else _) = _; rw [h1]; rfl
        refine VSt.go tb_ok false [] 200 rfl (AllP.c (by omega) (AllP.c (by omega) (AllP.c (fun q hq => match q, hq with | 0, _ => rfl) (AllP.c rfl (AllP.c rfl (AllP.c rfl AllP.n)))))) ?_
        rw [e2]
        exact .inl ⟨rfl, [], _, by refine Wk.vw (ps := [(0, 0), (5, 5), (4, 8), (3, 3), (2, 2), (1, 1)]) ⟨rfl, rfl, (by repeat (first | exact wf_nil | refine wf_back rfl rfl rfl ?_)), _, rfl, (⟨rfl, BImp.refl _, rfl, BImp.refl _, rfl, BImp.acc hN.symm (fun x hx => app_int _ _ x hx), rfl, BImp.cell1 (AImp.acc hN.symm (fun _ => rfl)), rfl, BImp.refl _, rfl, BImp.refl _, trivial⟩)⟩, rfl⟩
      · have h1 : canB l d (snc Y (nth l k).source) X = false := h1
        have e2 : rdK l d (k + 1) = (Y, snc X (nth l k).source) := by
          rw [e]; unfold rdS; show (bif canB l d (snc Y (nth l k).source) X then _ else _) = _; rw [h1]; rfl
        refine VSt.go tb_ok false [] 200 rfl (AllP.c (by omega) (AllP.c (by omega) (AllP.c (fun q hq => match q, hq with | 0, _ => rfl) (AllP.c rfl (AllP.c rfl (AllP.c rfl AllP.n)))))) ?_
        rw [e2]
        exact .inl ⟨rfl, [], _, by refine Wk.vw (ps := [(0, 0), (5, 5), (4, 4), (3, 3), (2, 8), (1, 1)]) ⟨rfl, rfl, (by repeat (first | exact wf_nil | refine wf_back rfl rfl rfl ?_)), _, rfl, (⟨rfl, BImp.refl _, rfl, BImp.refl _, rfl, BImp.refl _, rfl, BImp.refl _, rfl, BImp.acc hM.symm (fun x hx => app_int _ _ x hx), rfl, BImp.cell1 (AImp.acc hM.symm (fun _ => rfl)), trivial⟩)⟩, rfl⟩
  · rintro a L' (⟨L, rfl, rfl⟩ | ⟨G2, L, hJ, rfl⟩)
    rotate_left
    · exact hJ.elim
    refine ⟨_, _, _, _, _, _, _, _, rfl, rfl, rfl, ?_⟩
    refine VSt.viewC (Vw.kp [3] [(0, 0), (1, 1)] rfl) ?_
    refine VSt.viewC (Vw.freezeA 1 rfl rfl ⟨Nat.le_refl _, rfl⟩) ?_
    refine VSt.go tb_ok false [] 200 rfl AllP.n ?_
    refine EndsP.mk rfl rfl rfl ?_
    exact acc_eInts (j := 0) rfl
end Go.Proofs.YtbieflpgjmgaiaaGreat
/- Walks: the pairs of the program. -/
set_option maxRecDepth 100000
namespace Go.Proofs.YtbieflpgjmgaiaaGreat
open Kuhn
variable {r : Rm}
theorem par_look {c : List Opn} (h : Vc c) (hn : c.length ≤ 60) {o : Opn} (ho : o ∈ c) (hr : o.register = 1) : (mpM (matchM (cross c)) (src o)).getD (.int .i64 0) = .int .i64 (Int.ofNat ((parO c o).getD 0)) := by
  have h1 : (ks0 (matchM (cross c))).of (src o) = none := by
    cases hf : (ks0 (matchM (cross c))).of (src o) with
    | none => rfl
    | some g =>
      have he := nextP_mem.1 ((match_inv h hn).edge (src o) g hf).1
      obtain ⟨_, _, b, hb, h2, _, h3⟩ := cross_mem he
      have := h.inj hb ho h3
      subst this
      have := (isP_regs h2).2.1
      omega
  unfold mpM mpS parO
  rw [h1]
  show (match (matchM (cross c)).to (src o) with | some y => some (PV.int .i64 (Int.ofNat y)) | none => none).getD (.int .i64 0) = _
  cases (matchM (cross c)).to (src o) <;> rfl
theorem par_pos {c : List Opn} (h : Vc c) (hn : c.length ≤ 60) {o : Opn} {y : Nat} (hy : parO c o = some y) : 0 < y := by
  have he := nextP_mem.1 ((match_inv h hn).edge y (src o) (of_cons hy)).1
  obtain ⟨_, _, b, hb, _, _, h3⟩ := cross_mem he
  have h4 := (h.ok b hb).pos
  have h5 := (h.ok b hb).src
  have h3 : src b = y := h3
  rw [h3] at h5
  simp only [Int.ofNat_eq_natCast] at h5
  omega
theorem has_par {c : List Opn} (h : Vc c) (hn : c.length ≤ 60) {o : Opn} (hr : o.register = 1) : hasPar c o = !(Int.ofNat ((parO c o).getD 0) == 0) := by
  unfold hasPar
  rw [hr, beq_self_eq_true, Bool.true_and]
  cases hp : parO c o with
  | none => rfl
  | some y =>
    have := par_pos h hn hp
    show true = !(Int.ofNat y == 0)
    rw [beq_false_of_ne (by simp only [Int.ofNat_eq_natCast]; omega)]; rfl
def prK (l : List Opn) (d : Int) (k : Nat) : List (Nat × Nat) := preL l (fun o => counts o d && hasPar (cnt l d nb) o) (pairO (cnt l d nb)) k
theorem prK_all {l : List Opn} {d : Int} : prK l d l.length = prL (cnt l d nb) := by
  unfold prK prL
  rw [preL_all]
  congr 1
  conv => rhs; rw [show (cnt l d nb).filter (hasPar (cnt l d nb)) = (l.filter fun o => counts o d).filter (hasPar (cnt l d nb)) by rw [← cnt_nb]]
  rw [List.filter_filter]
  congr 1; funext o
  rw [Bool.and_comm]
open Classical in
noncomputable def prE (l : List Opn) (d : Int) : List (Nat × Nat) := if askE l d = 0 then prL (cnt l d nb) else []
set_option maxHeartbeats 4000000 in
theorem Pairs_ok {b : Bool} {l : List Opn} {d : Int} (hz : SzsW l) : VP (sE r) 42 [.p (eOpns b l), iv d] (.tup [.p (ePairs (prE l d)), iv (askE l d)]) := by
  have hlk := look_ok (r := r) (b := b) (ds := [d]) hz (show 0 < 1 by decide) (show 1 < 1000000 by decide)
  refine VP.of (fn := Tryz.f42) tb_ok (wk_ok rfl) (by kernel_rfl) rfl rfl rfl ?_
  refine VSt.go tb_ok false [] 200 rfl AllP.n ?_
  rcases ask_cases l d with ⟨hR, hd, hE⟩ | ⟨hE, hl⟩
  · have hz := hR.szs
    have hV := hR.cnt d nb
    have hn : (cnt l d nb).length ≤ 60 := Vc.len hR rfl
    have hll := hR.len
    have eq : prE l d = prL (cnt l d nb) := if_pos hE
    have hm := matching_ok (r := r) (b := b) (d := d) (bar := nb) false (fun _ => rfl) hz hR
    rw [(look1 (b := b) hR hd).1, (look1 (b := b) hR hd).2] at hlk
    rw [eq, hE]
    refine VSt.pc rfl rfl rfl rfl rfl rfl rfl rfl ((VP.imp hlk ⟨AImp.refl _, lit1, trivial⟩)) ?_
    refine VSt.go tb_ok false [] 200 rfl AllP.n ?_
    refine VSt.cond rfl (fun h => absurd h (by decide)) (fun _ => ?_)
    refine VSt.go tb_ok false [] 200 rfl AllP.n ?_
    refine VSt.cg [] (stc := []) rfl rfl rfl rfl rfl rfl rfl rfl rfl rfl rfl rfl hm ?_
    rintro a L' ⟨rfl, rfl⟩
    refine VSt.go tb_ok false [] 200 rfl AllP.n ?_
    refine VSt.pc rfl rfl rfl rfl rfl rfl rfl rfl ((counting_ok b l d)) ?_
    refine VSt.go tb_ok false [] 200 rfl AllP.n ?_
    refine VSt.viewC (Vw.kp [8, 9, 24] [(0, 0), (1, 1), (2, 2)] rfl) ?_
    refine VSt.viewC (Vw.adopt 3 2 (fP []) 69 rfl) ?_
    refine VSt.viewC (Wk.vw (ps := [(0, 0), (1, 1), (2, 2), (3, 3)]) (F0 := [(8, .ref 1 0), (9, .ref 2 0), (24, knF b l d)]) (L0 := [(0, .mapA (some (2 * lowN (edg (cnt l d nb)))) (mpM (matchM (cross (cnt l d nb)))) []), (1, .cells [.map 0] 110), (2, .cells [.acc true 3 2 0] 51), (3, .acc 0 2 (fP []) 69)]) ⟨rfl, rfl, (by repeat (first | exact wf_nil | refine wf_back rfl rfl rfl ?_)), _, rfl, ⟨rfl, BImp.refl _, rfl, BImp.refl _, rfl, BImp.cell1 AImp.nilAcc, rfl, BImp.refl _, trivial⟩⟩) ?_
    refine VSt.rangeFuncG [(0, 4), (1, 0), (2, 1), (3, 2), (4, 3)] (stc := [0, 1, 2, 3]) rfl rfl rfl rfl rfl rfl rfl rfl (cnt1_ok (b := b) (l := l) (d := d) (by omega) (G1 := fun k => (25, .agg ((eOpn (nth l k)).map .p)) :: [(8, .ref 2 0), (9, .ref 3 0), (24, knF b l d)]) [1, 2, 3]
      (fun k L => L = [(1, .mapA (some (2 * lowN (edg (cnt l d nb)))) (mpM (matchM (cross (cnt l d nb)))) []), (2, .cells [.map 1] 110)] ++ memP 3 4 (prK l d k)) (fun _ => False) rfl (fun _ => rfl) ?_ ?_) ?_
    · rintro k L hk hc rfl
      rw [show prK l d (k + 1) = prK l d k from preL_f hk (by show (counts (nth l k) d && _) = _; rw [hc]; rfl)]
    · rintro k L hk hc rfl
      refine VSt.go tb_ok false [10] 200 rfl AllP.n ?_
      refine VSt.aside (eOpn (nth l k)) tb_ok rfl rfl rfl rfl rfl rfl rfl rfl rfl rfl rfl ?_
      refine VSt.go tb_ok false [] 200 rfl AllP.n ?_
      refine ⟨rfl, _, rfl, ?_⟩
      have hlen : (prK l d k).length ≤ l.length := preL_len
      have hsrc := (hR.ok k hk).src
      have hin : nth l k ∈ cnt l d nb := by rw [cnt_nb]; exact List.mem_filter.2 ⟨getD_mem hk, hc⟩
      have no : hasPar (cnt l d nb) (nth l k) = false → prK l d (k + 1) = prK l d k := fun h => preL_f hk (by show (counts (nth l k) d && _) = _; rw [hc, h]; rfl)
      refine VSt.go tb_ok false [] 200 rfl AllP.n ?_
      refine VSt.splitO 29 rfl (fun h1 => ?_) (fun h1 => ?_)
      · have h1 : (nth l k).register = 1 := by simpa using (show ((nth l k).register == 1) = true from h1)
        have hpl : AImp (.p ((mpM (matchM (cross (cnt l d nb))) (src (nth l k))).getD (.int .i64 0))) (nv ((parO (cnt l d nb) (nth l k)).getD 0)) := AImp.of_eq (by rw [par_look hV hn hin h1])
        refine VSt.go tb_ok false [33] 200 rfl AllP.n ?_
        refine VSt.putO 32 (nv (src (nth l k))) rfl (iv_nv hsrc) ?_
        refine VSt.go tb_ok false [34] 200 rfl AllP.n ?_
        refine VSt.putO 33 (nv ((parO (cnt l d nb) (nth l k)).getD 0)) rfl hpl ?_
        refine VSt.go tb_ok false [] 200 rfl AllP.n ?_
        refine VSt.cond rfl (fun h2 => ?_) (fun h2 => ?_)
        · have h2 : hasPar (cnt l d nb) (nth l k) = true := by rw [has_par hV hn h1]; exact h2
          have e : prK l d (k + 1) = prK l d k ++ [pairO (cnt l d nb) (nth l k)] := preL_t hk (by show (counts (nth l k) d && _) = _; rw [hc, h2]; rfl)
          have hN := congrArg List.length e
          rw [List.length_append, List.length_singleton] at hN
          refine VSt.go tb_ok false [42] 200 rfl AllP.n ?_
          refine VSt.putO 41 (nv (src (nth l k))) rfl (iv_nv hsrc) ?_
          refine VSt.go tb_ok false [43] 200 rfl AllP.n ?_
          refine VSt.putO 42 (nv ((parO (cnt l d nb) (nth l k)).getD 0)) rfl hpl ?_
          refine VSt.go tb_ok false [] 200 rfl (AllP.c (by omega) (AllP.c (by omega) (AllP.c (fun q hq => match q, hq with | 0, _ => rfl) (AllP.c rfl (AllP.c rfl (AllP.c rfl AllP.n)))))) ?_
          exact .inl ⟨rfl, [], _, by refine Wk.vw (ps := [(0, 0), (1, 1), (2, 2), (3, 3), (4, 5)]) ⟨rfl, rfl, (by repeat (first | exact wf_nil | refine wf_back rfl rfl rfl ?_)), _, rfl, (⟨rfl, BImp.refl _, rfl, BImp.refl _, rfl, BImp.refl _, rfl, BImp.cell1 (AImp.acc hN.symm (fun _ => rfl)), rfl, BImp.acc hN.symm (fun x hx => by rw [e]; exact app_pair _ (pairO (cnt l d nb) (nth l k)) hsrc rfl x hx), trivial⟩)⟩, rfl⟩
        · have h2 : hasPar (cnt l d nb) (nth l k) = false := by rw [has_par hV hn h1]; exact h2
          refine VSt.go tb_ok false [] 200 rfl AllP.n ?_
          rw [← no h2]
          exact .inl ⟨rfl, [], _, by refine Wk.vw (ps := [(0, 0), (1, 1), (2, 2), (3, 3), (4, 4)]) ⟨rfl, rfl, (by repeat (first | exact wf_nil | refine wf_back rfl rfl rfl ?_)), _, rfl, ((LImp.refl _))⟩, rfl⟩
      · have h1 : ((nth l k).register == 1) = false := h1
        refine VSt.go tb_ok false [] 200 rfl AllP.n ?_
        rw [← no (by unfold hasPar; rw [h1]; rfl)]
        exact .inl ⟨rfl, [], _, by refine Wk.vw (ps := [(0, 0), (1, 1), (2, 2), (3, 3), (4, 4)]) ⟨rfl, rfl, (by repeat (first | exact wf_nil | refine wf_back rfl rfl rfl ?_)), _, rfl, ((LImp.refl _))⟩, rfl⟩
    · rintro a L' (⟨L, rfl, rfl⟩ | ⟨G2, L, hJ, rfl⟩)
      rotate_left
      · exact hJ.elim
      refine ⟨_, _, _, _, _, _, _, _, rfl, rfl, rfl, ?_⟩
      rw [prK_all]
      refine VSt.viewC (Vw.kp [9] [(0, 2), (1, 3)] rfl) ?_
      refine VSt.viewC (Vw.freezeA 1 rfl rfl ⟨Nat.le_refl _, rfl⟩) ?_
      refine VSt.go tb_ok false [] 200 rfl AllP.n ?_
      refine EndsP.mk rfl rfl rfl ?_
      have e1 := acc_ePairs (l := prL (cnt l d nb)) rfl
      show AV.tup [_, _] = AV.tup [_, _]
      rw [show AV.p (ePairs (prL (cnt l d nb))) = _ from e1.symm]
      rfl
  · rw [(hl b).1, (hl b).2] at hlk
    refine VSt.pc rfl rfl rfl rfl rfl rfl rfl rfl ((VP.imp hlk ⟨AImp.refl _, lit1, trivial⟩)) ?_
    refine VSt.go tb_ok false [] 200 rfl AllP.n ?_
    refine VSt.cond rfl (fun _ => ?_) (fun h => ?_)
    · refine VSt.go tb_ok false [5] 200 rfl AllP.n ?_
      refine VSt.putO 4 (.p (ePairs [])) rfl AImp.nil ?_
      refine VSt.go tb_ok false [] 200 rfl AllP.n ?_
      refine EndsP.mk rfl rfl rfl ?_
      show AV.tup _ = AV.tup _
      unfold prE
      rw [if_neg hE]; rfl
    · have h : (!(askE l d == 0)) = false := h
      exact absurd (by simpa using h) hE
end Go.Proofs.YtbieflpgjmgaiaaGreat
/- Walks: the law of the fewest. -/
set_option maxRecDepth 100000
namespace Go.Proofs.YtbieflpgjmgaiaaGreat
open Kuhn
variable {r : Rm}
theorem neq_not {x : Int} {P : Prop} (h : (!(x == x)) = true) : P := by rw [beq_self_eq_true] at h; cases h
theorem neq_not' {x y : Int} {P : Prop} (e : x = y) (h : (!(x == y)) = true) : P := by subst e; exact neq_not h
open Classical in
noncomputable def rdE (l : List Opn) (d : Int) : List Int := if askE l d = 0 then (rdK l d l.length).2 else []
theorem False_ok {b : Bool} {l : List Opn} {d : Int} (hz : SzsW l) : VP (sE r) 41 [.p (eOpns b l), iv d] (.tup [.p (eInts (rdE l d).isEmpty (rdE l d)), iv (askE l d)]) := by
  have hlk := look_ok (r := r) (b := b) (ds := [d]) hz (show 0 < 1 by decide) (show 1 < 1000000 by decide)
  refine VP.of (fn := Tryz.f41) tb_ok (wk_ok rfl) (by kernel_rfl) rfl rfl rfl ?_
  refine VSt.go tb_ok false [] 200 rfl AllP.n ?_
  rcases ask_cases l d with ⟨hR, hd, hE⟩ | ⟨hE, hl⟩
  · have hz := hR.szs
    have eq : rdE l d = (rdK l d l.length).2 := if_pos hE
    rw [(look1 (b := b) hR hd).1, (look1 (b := b) hR hd).2] at hlk
    rw [eq, hE]
    refine VSt.pc rfl rfl rfl rfl rfl rfl rfl rfl ((VP.imp hlk ⟨AImp.refl _, lit1, trivial⟩)) ?_
    refine VSt.go tb_ok false [] 200 rfl AllP.n ?_
    refine VSt.cond rfl (fun h => absurd h (by decide)) (fun _ => ?_)
    refine VSt.go tb_ok false [] 200 rfl AllP.n ?_
    refine VSt.pc rfl rfl rfl rfl rfl rfl rfl rfl ((read_ok (b := b) (d := d) hz hR)) ?_
    refine VSt.go tb_ok false [] 200 rfl AllP.n ?_
    exact EndsP.mk rfl rfl rfl rfl
  · rw [(hl b).1, (hl b).2] at hlk
    refine VSt.pc rfl rfl rfl rfl rfl rfl rfl rfl ((VP.imp hlk ⟨AImp.refl _, lit1, trivial⟩)) ?_
    refine VSt.go tb_ok false [] 200 rfl AllP.n ?_
    refine VSt.cond rfl (fun _ => ?_) (fun h => ?_)
    · refine VSt.go tb_ok false [5] 200 rfl AllP.n ?_
      refine VSt.putO 4 (.p (eInts true [])) rfl AImp.nil ?_
      refine VSt.go tb_ok false [] 200 rfl AllP.n ?_
      refine EndsP.mk rfl rfl rfl ?_
      show AV.tup _ = AV.tup _
      unfold rdE
      rw [if_neg hE]; rfl
    · have h : (!(askE l d == 0)) = false := h
      exact absurd (by simpa using h) hE
theorem rdE_len (l : List Opn) (d : Int) : (rdE l d).length = fewV l d := by
  unfold rdE fewV
  rcases ask_cases l d with ⟨hR, hd, hE⟩ | ⟨hE, _⟩
  · rw [if_pos hE, if_pos hE, (reading_ok hR).2]
  · rw [if_neg hE, if_neg hE]; rfl
theorem prE_len (l : List Opn) (d : Int) : (prE l d).length = fewV l d := by
  unfold prE fewV
  rcases ask_cases l d with ⟨hR, hd, hE⟩ | ⟨hE, _⟩
  · rw [if_pos hE, if_pos hE, (prL_ok (hR.cnt d nb) (Vc.len hR rfl)).2]
  · rw [if_neg hE, if_neg hE]; rfl
theorem few_le (l : List Opn) (d : Int) : fewV l d ≤ 60 := by
  unfold fewV
  rcases ask_cases l d with ⟨hR, hd, hE⟩ | ⟨hE, _⟩
  · rw [if_pos hE]; exact low_bd (hR.cnt d nb) (Vc.len hR rfl)
  · rw [if_neg hE]; exact Nat.zero_le _
theorem zP_imp {P : List (Nat × Nat)} : AImp (.p (ePairs P)) (.p (eZs P.isEmpty (zP P))) := by
  have hl : (zP P).length = P.length := by unfold zP; rw [List.length_map]
  show AImp (.p (.lst 69 P.isEmpty P.length _)) (.p (.lst 69 P.isEmpty (zP P).length _))
  rw [hl]
  refine AImp.lst fun k hk => ?_
  rw [zP_at hk]; rfl
end Go.Proofs.YtbieflpgjmgaiaaGreat
