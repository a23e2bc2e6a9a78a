/- The program's ChestChecks returns true for all openings, valid or not, without an exception and without changing its arguments: a part of the proof. -/
import Derived.Test.YtbieflpgjmgaiaaGreatVu
import Derived.Test.YtbieflpgjmgaiaaGreatVe
set_option linter.all false
/- Plain: an opening put into openings. -/
set_option maxRecDepth 100000
namespace Go.Proofs.YtbieflpgjmgaiaaGreat
variable {r : Rm}
def insO (l : List Opn) (o : Opn) : List Opn := l.take (posN l o.source) ++ o :: l.drop (posN l o.source)
theorem insO_len {l : List Opn} {o : Opn} : (insO l o).length = l.length + 1 := by
  have := posN_le l o.source
  unfold insO
  rw [List.length_append, List.length_cons, List.length_take, List.length_drop]; omega
theorem insO_at {l : List Opn} {o : Opn} (k : Nat) : nth (insO l o) k = if k < posN l o.source then nth l k else if k = posN l o.source then o else nth l (k - 1) := by
  have h := posN_le l o.source
  unfold insO nth
  generalize posN l o.source = p at *
  simp only [List.getD_eq_getElem?_getD]
  by_cases c1 : k < p
  · rw [if_pos c1, List.getElem?_append_left (by rw [List.length_take]; omega), List.getElem?_take, if_pos c1]
  · rw [if_neg c1, List.getElem?_append_right (by rw [List.length_take]; omega), List.length_take, Nat.min_eq_left h]
    by_cases c2 : k = p
    · rw [if_pos c2, c2, Nat.sub_self]; rfl
    · rw [if_neg c2, show k - p = (k - 1 - p) + 1 by omega, List.getElem?_cons_succ, List.getElem?_drop, show p + (k - 1 - p) = k - 1 by omega]
theorem insO_cell {l : List Opn} {o : Opn} {h : Nat → List PV} (h0 : h 0 = eOpn o) (k : Nat) : insF (fO l) h (posN l o.source) k = fO (insO l o) k := by
  unfold insF fO
  rw [insO_at]
  by_cases c1 : k < posN l o.source
  · rw [if_pos c1, if_pos c1]
  · rw [if_neg c1, if_neg c1]
    by_cases c2 : k = posN l o.source
    · rw [if_pos c2, if_pos c2]; exact h0
    · rw [if_neg c2, if_neg c2]
noncomputable def wiE (l : List Opn) (o : Opn) : Int := if ckReg l = 0 then (if ckO o = 0 ∧ hasS l o.source = false then (if l.length = 60 then 2 else ckReg (insO l o)) else 60) else 61
noncomputable def wiP (l : List Opn) (o : Opn) : PV := if wiE l o = 0 then eOpns false (insO l o) else eOpns true []
theorem wi_reg {l : List Opn} {o : Opn} (h : ckReg l ≠ 0) : wiE l o = 61 ∧ wiP l o = eOpns true [] := by
  have e : wiE l o = 61 := if_neg h
  exact ⟨e, by unfold wiP; rw [e]; rfl⟩
theorem wi_opn {l : List Opn} {o : Opn} (h : ckReg l = 0) (h2 : ¬ (ckO o = 0 ∧ hasS l o.source = false)) : wiE l o = 60 ∧ wiP l o = eOpns true [] := by
  have e : wiE l o = 60 := by unfold wiE; rw [if_pos h, if_neg h2]
  exact ⟨e, by unfold wiP; rw [e]; rfl⟩
theorem wi_long {l : List Opn} {o : Opn} (h : ckReg l = 0) (h2 : ckO o = 0 ∧ hasS l o.source = false) (h3 : l.length = 60) : wiE l o = 2 ∧ wiP l o = eOpns true [] := by
  have e : wiE l o = 2 := by unfold wiE; rw [if_pos h, if_pos h2, if_pos h3]
  exact ⟨e, by unfold wiP; rw [e]; rfl⟩
theorem wi_in {l : List Opn} {o : Opn} (h : ckReg l = 0) (h2 : ckO o = 0 ∧ hasS l o.source = false) (h3 : ¬ l.length = 60) : wiE l o = ckReg (insO l o) := by
  unfold wiE; rw [if_pos h, if_pos h2, if_neg h3]
theorem wi_bad {l : List Opn} {o : Opn} (h : ckReg l = 0) (h2 : ckO o = 0 ∧ hasS l o.source = false) (h3 : ¬ l.length = 60) (h4 : ckReg (insO l o) ≠ 0) : wiE l o = 61 ∧ wiP l o = eOpns true [] := by
  have e : wiE l o = 61 := by rw [wi_in h h2 h3]; exact (ckReg_or _).elim (fun h => absurd h.2 h4) fun h => h.2
  exact ⟨e, by unfold wiP; rw [e]; rfl⟩
theorem wi_good {l : List Opn} {o : Opn} (h : ckReg l = 0) (h2 : ckO o = 0 ∧ hasS l o.source = false) (h3 : ¬ l.length = 60) (h4 : ckReg (insO l o) = 0) : wiE l o = 0 ∧ wiP l o = eOpns false (insO l o) := by
  have e : wiE l o = 0 := by rw [wi_in h h2 h3]; exact h4
  exact ⟨e, by unfold wiP; rw [e]; rfl⟩
theorem reg_of {l : List Opn} (h : ckReg l = 0) : Reg l := (ckReg_or l).elim (fun h => h.1) fun h2 => absurd (h.symm.trans h2.2) (by decide)
theorem pos_ex {l : List Opn} (hR : Reg l) (s : Int) : ∀ n, n ≤ l.length → ∃ i, i ≤ n ∧ (∀ q, q < i → (nth l q).source < s) ∧ ∀ q, i ≤ q → q < n → s ≤ (nth l q).source
  | 0, _ => ⟨0, Nat.le_refl _, fun q hq => absurd hq (Nat.not_lt_zero q), fun q _ hq => absurd hq (Nat.not_lt_zero q)⟩
  | n + 1, hn => by
    obtain ⟨i, h1, h2, h3⟩ := pos_ex hR s n (by omega)
    by_cases c : (nth l n).source < s
    · refine ⟨n + 1, Nat.le_refl _, fun q hq => ?_, fun q h4 h5 => by omega⟩
      rcases Nat.lt_or_eq_of_le (Nat.le_of_lt_succ hq) with h | h
      · have := hR.mono h hn; omega
      · subst h; exact c
    · refine ⟨i, by omega, h2, fun q h4 h5 => ?_⟩
      rcases Nat.lt_or_eq_of_le (Nat.le_of_lt_succ h5) with h | h
      · exact h3 q h4 h
      · subst h; omega
theorem pos_lt {l : List Opn} (hR : Reg l) {s : Int} {i : Nat} (hi : i < l.length) : i < posN l s ↔ (nth l i).source < s := by
  obtain ⟨p, h1, h2, h3⟩ := pos_ex hR s l.length (Nat.le_refl _)
  rw [posN_eq h1 h2 h3]
  refine ⟨h2 i, fun h => ?_⟩
  rcases Nat.lt_or_ge i p with c | c
  · exact c
  · have := h3 i c hi; omega
theorem nth_cp {l : List Opn} {i : Nat} (hi : i < l.length) : nth (l.map cpO) i = cpO (nth l i) := by
  unfold nth
  rw [getD_get (by rw [List.length_map]; exact hi), getD_get hi, List.getElem_map]
theorem cpO_okI {o : Opn} : OkO (cpO o) ↔ OkO o := ⟨fun h => ⟨h.source, h.register, h.day, h.lawful, h.inn, h.out, h.com, h.known, h.until_⟩, cpO_ok⟩
theorem ckReg_cp {l : List Opn} : ckReg (l.map cpO) = ckReg l := by
  have e : Reg (l.map cpO) ↔ Reg l := by
    refine ⟨fun h => ⟨by have := h.len; rw [List.length_map] at this; exact this, fun i hi => ?_, fun i h0 hi => ?_, fun i hi k hk => ?_⟩, Reg.cp⟩
    · have := h.ok i (by rw [List.length_map]; exact hi)
      rw [nth_cp hi] at this
      exact cpO_okI.1 this
    · have := h.rise i h0 (by rw [List.length_map]; exact hi)
      rw [nth_cp hi, nth_cp (by omega)] at this
      exact this
    · have := h.apart i (by rw [List.length_map]; exact hi) k hk
      rw [nth_cp hi, nth_cp (by omega)] at this
      exact this
  rcases ckReg_or l with ⟨h1, h2⟩ | ⟨h1, h2⟩
  · rw [h2]; exact if_pos (e.2 h1)
  · rw [h2]; exact if_neg fun h => h1 (e.1 h)
theorem SzW.of {o : Opn} (h : Sz o) : SzW o := ⟨by have := h.inn; omega, by have := h.out; omega⟩
theorem insO_szw {l : List Opn} {o : Opn} (hR : Reg l) (hO : OkO o) : SzsW (insO l o) := by
  have hl := hR.len
  refine ⟨by rw [insO_len]; omega, fun k hk => ?_⟩
  rw [insO_len] at hk
  rw [insO_at]
  by_cases c1 : k < posN l o.source
  · have := posN_le l o.source
    rw [if_pos c1]; exact SzW.of (hR.ok k (by omega)).sz
  · rw [if_neg c1]
    by_cases c2 : k = posN l o.source
    · rw [if_pos c2]; exact SzW.of hO.sz
    · rw [if_neg c2]; exact SzW.of (hR.ok (k - 1) (by omega)).sz
theorem cp_szw {l : List Opn} (h : SzsW l) : SzsW (l.map cpO) := ⟨by rw [List.length_map]; exact h.len, fun k hk => by
  rw [List.length_map] at hk
  rw [nth_cp hk]
  exact ⟨(h.each k hk).inn, (h.each k hk).out⟩⟩
def pwS (o : Opn) (st : List Opn × Bool) (y : Opn) : List Opn × Bool := bif decide (o.source < y.source) && !st.2 then (st.1 ++ [cpO o] ++ [cpO y], true) else (st.1 ++ [cpO y], st.2)
def pwK (l : List Opn) (o : Opn) : Nat → List Opn × Bool
  | 0 => ([], false)
  | k + 1 => pwS o (pwK l o k) (nth l k)
theorem pwK_len {l : List Opn} {o : Opn} : ∀ k, (pwK l o k).1.length ≤ 2 * k
  | 0 => Nat.le_refl _
  | k + 1 => by
    have := pwK_len (l := l) (o := o) k
    show (pwS o (pwK l o k) (nth l k)).1.length ≤ _
    unfold pwS
    cases (decide (o.source < (nth l k).source) && !(pwK l o k).2)
    · show ((pwK l o k).1 ++ [cpO (nth l k)]).length ≤ _
      rw [List.length_append, List.length_singleton]; omega
    · show ((pwK l o k).1 ++ [cpO o] ++ [cpO (nth l k)]).length ≤ _
      rw [List.length_append, List.length_append, List.length_singleton, List.length_singleton]; omega
theorem pwK_eq {l : List Opn} {o : Opn} (hR : Reg l) (hh : hasS l o.source = false) : ∀ k, k ≤ l.length → pwK l o k = ((if k ≤ posN l o.source then l.take k else l.take (posN l o.source) ++ o :: (l.take k).drop (posN l o.source)).map cpO, decide (posN l o.source < k))
  | 0, _ => by rw [if_pos (Nat.zero_le _), List.take_zero, decide_eq_false (Nat.not_lt_zero _)]; rfl
  | k + 1, hk => by
    have ih := pwK_eq hR hh k (by omega)
    have hpl := pos_lt hR (s := o.source) (i := k) hk
    have hne : (nth l k).source ≠ o.source := fun e => by
      have : hasS l o.source = true := List.any_eq_true.2 ⟨nth l k, getD_mem hk, by rw [e]; exact beq_self_eq_true _⟩
      rw [hh] at this; cases this
    have ht : l.take (k + 1) = l.take k ++ [nth l k] := take_nth hk
    show pwS o (pwK l o k) (nth l k) = _
    generalize posN l o.source = p at *
    rw [ih, ht]
    unfold pwS
    by_cases c1 : k < p
    · have := hpl.1 c1
      rw [decide_eq_false (show ¬ o.source < (nth l k).source by omega), Bool.false_and, cond_false, if_pos (by omega), if_pos (by omega), List.map_append, decide_eq_false (show ¬ p < k by omega), decide_eq_false (show ¬ p < k + 1 by omega)]; rfl
    · have h2 : o.source < (nth l k).source := by have := mt hpl.2 c1; omega
      have hlk : (l.take k).length = k := by rw [List.length_take]; omega
      rw [decide_eq_true h2, Bool.true_and, decide_eq_true (show p < k + 1 by omega), if_neg (show ¬ k + 1 ≤ p by omega)]
      by_cases c2 : k = p
      · subst c2
        rw [decide_eq_false (Nat.lt_irrefl k), if_pos (Nat.le_refl _), List.drop_append_of_le_length (by omega), List.drop_of_length_le (by omega), List.nil_append]
        show (((l.take k).map cpO ++ [cpO o] ++ [cpO (nth l k)], true) : List Opn × Bool) = _
        rw [List.map_append, List.append_assoc]; rfl
      · rw [decide_eq_true (show p < k by omega), if_neg (show ¬ k ≤ p by omega), List.drop_append_of_le_length (by omega)]
        show ((_ ++ [cpO (nth l k)], true) : List Opn × Bool) = _
        rw [List.map_append, List.map_append, List.map_cons, List.map_cons, List.map_append, List.append_assoc]; rfl
def pwL (l : List Opn) (o : Opn) : List Opn := bif (pwK l o l.length).2 then (pwK l o l.length).1 else (pwK l o l.length).1 ++ [cpO o]
theorem pwL_eq {l : List Opn} {o : Opn} (hR : Reg l) (hh : hasS l o.source = false) : pwL l o = (insO l o).map cpO := by
  have h := posN_le l o.source
  unfold pwL insO
  rw [pwK_eq hR hh l.length (Nat.le_refl _), List.take_length]
  generalize posN l o.source = p at *
  by_cases c : p < l.length
  · rw [decide_eq_true c, if_neg (show ¬ l.length ≤ p by omega)]; rfl
  · have : p = l.length := by omega
    subst this
    rw [decide_eq_false c, if_pos (Nat.le_refl _), List.take_length, List.drop_length, List.map_append]; rfl
noncomputable def wiR (l : List Opn) (o : Opn) : PV := if wiE l o = 0 then eOpns false ((insO l o).map cpO) else eOpns true []
theorem wiR_no {l : List Opn} {o : Opn} (h : wiE l o ≠ 0) : wiR l o = eOpns true [] := if_neg h
theorem wiR_yes {l : List Opn} {o : Opn} (h : wiE l o = 0) : wiR l o = eOpns false ((insO l o).map cpO) := if_pos h
end Go.Proofs.YtbieflpgjmgaiaaGreat
/- Walks: With of the program; SameOpenings. -/
set_option maxRecDepth 100000
namespace Go.Proofs.YtbieflpgjmgaiaaGreat
variable {r : Rm}
theorem ins_slot {l : List Opn} {o : Opn} {h : Nat → List PV} (h0 : h 0 = eOpn o) : AImp (.p (.lst 45 false (l.length + 1) (insF (fO l) h (posN l o.source)))) (.p (eOpns false (insO l o))) := by
  show AImp _ (.p (.lst 45 false (insO l o).length _))
  rw [insO_len]
  exact AImp.lst fun k _ => insO_cell h0 k
set_option maxHeartbeats 4000000 in
theorem With_ok {b : Bool} {l : List Opn} {o : Opn} (hz : SzsW l) (ho : SzW o) : VP (sE r) 43 [.p (eOpns b l), .agg ((eOpn o).map .p)] (.tup [.p (wiP l o), iv (wiE l o)]) := by
  have hc := check_ok (r := r) (b := b) hz
  refine VP.of (fn := Tryz.f43) tb_ok (wk_ok rfl) (by kernel_rfl) rfl rfl rfl ?_
  refine VSt.go tb_ok false [] 200 rfl AllP.n ?_
  refine VSt.viewO (Vw.freezeC 0 (eOpn o) rfl rfl) ?_
  rcases ckReg_or l with ⟨hR, e⟩ | ⟨hR, e⟩
  rotate_left
  · rw [e] at hc
    obtain ⟨e1, e2⟩ := wi_reg (l := l) (o := o) (by rw [e]; decide)
    rw [e1, e2]
    refine VSt.pc rfl rfl rfl rfl rfl rfl rfl rfl (hc) ?_
    refine VSt.go tb_ok false [] 200 rfl AllP.n ?_
    refine VSt.cond rfl (fun _ => ?_) (fun h => absurd h (by decide))
    refine VSt.go tb_ok false [5] 200 rfl AllP.n ?_
    refine VSt.putO 4 (.p (eOpns true [])) rfl AImp.nil ?_
    refine VSt.go tb_ok false [] 200 rfl AllP.n ?_
    exact EndsP.mk rfl rfl rfl rfl
  rw [e] at hc
  have hl := hR.len
  refine VSt.pc rfl rfl rfl rfl rfl rfl rfl rfl (hc) ?_
  refine VSt.go tb_ok false [] 200 rfl AllP.n ?_
  refine VSt.cond rfl (fun h => absurd h (by decide)) (fun _ => ?_)
  refine VSt.go tb_ok false [] 200 rfl AllP.n ?_
  refine VSt.pc rfl rfl rfl rfl rfl rfl rfl rfl ((find_ok (b := b) (s := o.source) hR)) ?_
  refine VSt.go tb_ok false [] 200 rfl AllP.n ?_
  by_cases hO : OkO o
  rotate_left
  · have h1 := ckO_ok (r := r) ho
    rw [ckO_bad hO] at h1
    obtain ⟨e1, e2⟩ := wi_opn (l := l) (o := o) e (fun h => by rw [ckO_bad hO] at h; exact absurd h.1 (by decide))
    rw [e1, e2]
    refine VSt.pc rfl rfl rfl rfl rfl rfl rfl rfl (h1) ?_
    refine VSt.go tb_ok false [] 200 rfl AllP.n ?_
    refine VSt.splitO 30 rfl (fun g1 => ?_) (fun g1 => ?_)
    · refine VSt.go tb_ok false [5] 200 rfl AllP.n ?_
      refine VSt.putO 4 (.p (eOpns true [])) rfl AImp.nil ?_
      refine VSt.go tb_ok false [] 200 rfl AllP.n ?_
      exact EndsP.mk rfl rfl rfl rfl
    · exact absurd g1 (by decide)
  have h1 := ckO_ok (r := r) ho
  rw [ckO_good hO] at h1
  refine VSt.pc rfl rfl rfl rfl rfl rfl rfl rfl (h1) ?_
  refine VSt.go tb_ok false [] 200 rfl AllP.n ?_
  refine VSt.splitO 30 rfl (fun g1 => ?_) (fun g1 => ?_)
  · exact absurd g1 (by decide)
  refine VSt.go tb_ok false [] 200 rfl AllP.n ?_
  refine VSt.cond rfl (fun hh => ?_) (fun hh => ?_)
  · have hh : hasS l o.source = true := hh
    obtain ⟨e1, e2⟩ := wi_opn (l := l) (o := o) e (fun h => by rw [hh] at h; exact absurd h.2 (by decide))
    rw [e1, e2]
    refine VSt.go tb_ok false [5] 200 rfl AllP.n ?_
    refine VSt.putO 4 (.p (eOpns true [])) rfl AImp.nil ?_
    refine VSt.go tb_ok false [] 200 rfl AllP.n ?_
    exact EndsP.mk rfl rfl rfl rfl
  have hh : hasS l o.source = false := hh
  have hA2 : ckO o = 0 ∧ hasS l o.source = false := ⟨ckO_good hO, hh⟩
  refine VSt.go tb_ok false [] 200 rfl AllP.n ?_
  refine VSt.cond rfl (fun h3 => ?_) (fun h3 => ?_)
  · have h3 : l.length = 60 := by
      have h3 : (Int.ofNat l.length == 60) = true := h3
      have := eq_of_beq h3
      simp only [Int.ofNat_eq_natCast] at this
      omega
    obtain ⟨e1, e2⟩ := wi_long e hA2 h3
    rw [e1, e2]
    refine VSt.go tb_ok false [5] 200 rfl AllP.n ?_
    refine VSt.putO 4 (.p (eOpns true [])) rfl AImp.nil ?_
    refine VSt.go tb_ok false [] 200 rfl AllP.n ?_
    exact EndsP.mk rfl rfl rfl rfl
  have h3 : ¬ l.length = 60 := fun e => by
    have h3 : (Int.ofNat l.length == 60) = false := h3
    rw [e] at h3
    exact absurd h3 (by decide)
  have hi := posN_le l o.source
  refine VSt.go tb_ok false [] 200 rfl AllP.n ?_
  refine VSt.ccD [] rfl rfl rfl rfl rfl rfl rfl rfl rfl rfl rfl rfl (copied_ok (b := b) hR.szs) ?_
  rintro a L' ⟨rfl, rfl⟩
  refine VSt.go tb_ok false [] 200 rfl AllP.n ?_
  refine VSt.pcD rfl rfl rfl rfl rfl rfl rfl rfl ((copyOne_ok (o := o) hO.sz)) ?_
  refine VSt.go tb_ok true [43] 200 rfl AllP.n ?_
  refine VSt.ccD [(0, 1), (1, 2)] rfl rfl rfl rfl rfl rfl rfl rfl rfl rfl rfl rfl (VC.ins (n := l.length) (i := posN l o.source) rfl rfl rfl (by decide) (by omega) hi) ?_
  rintro a L' ⟨rfl, rfl⟩
  refine VSt.go tb_ok false [] 200 rfl AllP.n ?_
  refine VSt.viewO (Vw.kp [10, 44] [(0, 5)] rfl) ?_
  refine VSt.viewO (Vw.freezeA 0 rfl rfl ⟨Nat.le_refl _, rfl, Nat.le_refl _, rfl⟩) ?_
  refine VSt.putO 10 (.p (eOpns false (insO l o))) rfl (ins_slot rfl) ?_
  refine VSt.putO 44 (.p (eOpns false (insO l o))) rfl (ins_slot rfl) ?_
  have hcI := check_ok (r := r) (b := false) (insO_szw hR hO)
  rcases ckReg_or (insO l o) with ⟨_, e5⟩ | ⟨_, e5⟩
  · obtain ⟨e1, e2⟩ := wi_good e hA2 h3 e5
    rw [e1, e2]
    rw [e5] at hcI
    refine VSt.pc rfl rfl rfl rfl rfl rfl rfl rfl (hcI) ?_
    refine VSt.go tb_ok false [] 200 rfl AllP.n ?_
    refine VSt.cond rfl (fun h => absurd h (by decide)) (fun _ => ?_)
    refine VSt.go tb_ok false [] 200 rfl AllP.n ?_
    exact EndsP.mk rfl rfl rfl rfl
  · obtain ⟨e1, e2⟩ := wi_bad e hA2 h3 (by rw [e5]; decide)
    rw [e1, e2]
    rw [e5] at hcI
    refine VSt.pc rfl rfl rfl rfl rfl rfl rfl rfl (hcI) ?_
    refine VSt.go tb_ok false [] 200 rfl AllP.n ?_
    refine VSt.cond rfl (fun _ => ?_) (fun h => absurd h (by decide))
    refine VSt.go tb_ok false [5] 200 rfl AllP.n ?_
    refine VSt.putO 4 (.p (eOpns true [])) rfl AImp.nil ?_
    refine VSt.go tb_ok false [] 200 rfl AllP.n ?_
    exact EndsP.mk rfl rfl rfl rfl
end Go.Proofs.YtbieflpgjmgaiaaGreat
/- Walks: With of the reference. -/
set_option maxRecDepth 100000
namespace Go.Proofs.YtbieflpgjmgaiaaGreat
variable {r : Rm}
theorem snoc1 {α : Type} (A : List α) (z : α) : (A ++ [z]).length = A.length + 1 := by rw [List.length_append]; rfl
theorem pw_slot {l : List Opn} {o : Opn} (hR : Reg l) (hh : hasS l o.source = false) {A : List Opn} (e : A = pwL l o) {n : Nat} (hn : n = A.length) : AImp (.p (.lst 45 (true && Nat.beq n 0) n (fO A))) (.p (eOpns false ((insO l o).map cpO))) := by
  subst hn
  rw [pwL_eq hR hh] at e
  subst e
  have : ((insO l o).map cpO).length = l.length + 1 := by rw [List.length_map, insO_len]
  rw [beq_ne (show ((insO l o).map cpO).length ≠ 0 by omega)]
  exact AImp.refl _
set_option maxHeartbeats 4000000 in
theorem rWith_ok {b : Bool} {l : List Opn} {o : Opn} (hz : SzsW l) (ho : SzW o) : VP (sE r) 45 [.p (eOpns b l), .agg ((eOpn o).map .p)] (.tup [.p (wiR l o), iv (wiE l o)]) := by
  have hc := rCheck_ok (r := r) (b := b) hz
  refine VP.of (fn := Tryz.f45) tb_ok (wk_ok rfl) (by kernel_rfl) rfl rfl rfl ?_
  refine VSt.go tb_ok false [] 200 rfl AllP.n ?_
  refine VSt.viewO (Vw.freezeC 0 (eOpn o) rfl rfl) ?_
  rcases ckReg_or l with ⟨hR, e0⟩ | ⟨hR, e0⟩
  rotate_left
  · rw [e0] at hc
    obtain ⟨e1, _⟩ := wi_reg (l := l) (o := o) (by rw [e0]; decide)
    rw [wiR_no (by rw [e1]; decide), e1]
    refine VSt.pc rfl rfl rfl rfl rfl rfl rfl rfl (hc) ?_
    refine VSt.go tb_ok false [] 200 rfl AllP.n ?_
    refine VSt.cond rfl (fun _ => ?_) (fun h => absurd h (by decide))
    refine VSt.go tb_ok false [5] 200 rfl AllP.n ?_
    refine VSt.putO 4 (.p (eOpns true [])) rfl AImp.nil ?_
    refine VSt.go tb_ok false [] 200 rfl AllP.n ?_
    exact EndsP.mk rfl rfl rfl rfl
  rw [e0] at hc
  have hl := hR.len
  refine VSt.pc rfl rfl rfl rfl rfl rfl rfl rfl (hc) ?_
  refine VSt.go tb_ok false [] 200 rfl AllP.n ?_
  refine VSt.cond rfl (fun h => absurd h (by decide)) (fun _ => ?_)
  refine VSt.go tb_ok false [] 200 rfl AllP.n ?_
  by_cases hO : OkO o
  rotate_left
  · have h1 := rCkO_ok (r := r) ho
    rw [ckO_bad hO] at h1
    obtain ⟨e1, _⟩ := wi_opn (l := l) (o := o) e0 (fun h => by rw [ckO_bad hO] at h; exact absurd h.1 (by decide))
    rw [wiR_no (by rw [e1]; decide), e1]
    refine VSt.pc rfl rfl rfl rfl rfl rfl rfl rfl (h1) ?_
    refine VSt.go tb_ok false [] 200 rfl AllP.n ?_
    refine VSt.cond rfl (fun _ => ?_) (fun h => absurd h (by decide))
    refine VSt.go tb_ok false [5] 200 rfl AllP.n ?_
    refine VSt.putO 4 (.p (eOpns true [])) rfl AImp.nil ?_
    refine VSt.go tb_ok false [] 200 rfl AllP.n ?_
    exact EndsP.mk rfl rfl rfl rfl
  have h1 := rCkO_ok (r := r) ho
  have hO1 := ckO_good hO
  rw [hO1] at h1
  have hS := hO.sz
  refine VSt.pc rfl rfl rfl rfl rfl rfl rfl rfl (h1) ?_
  refine VSt.go tb_ok false [] 200 rfl AllP.n ?_
  refine VSt.cond rfl (fun h => absurd h (by decide)) (fun _ => ?_)
  refine VSt.go tb_ok false [] 200 rfl AllP.n ?_
  refine VSt.viewC (Vw.adopt 0 9 (fO []) 45 rfl) ?_
  refine VSt.loopT (ti := 8) l.length [0, 3] (fun k => [(6, .acc true 0 9 (pwK l o k).1.length), (7, bv (pwK l o k).2)]) (fun k => [(0, .acc (pwK l o k).1.length 9 (fO (pwK l o k).1) 45)]) (fun k => ∀ i, i < k → ((nth l i).source == o.source) = false) rfl rfl (u0_cons rfl AImp.nilAcc (u0_cons rfl AImp.litC u0_nil)) (LImp.refl _) none0 (fun k hk hp => ?_)
  have hlen := pwK_len (l := l) (o := o) k
  refine VSt.go tb_ok false [] 200 rfl AllP.n ?_
  refine VSt.cond rfl (fun h => ?_) (fun h => ?_)
  · have h := nlt h
    have e : pwK l o (k + 1) = pwS o (pwK l o k) (nth l k) := rfl
    have hpd : ∀ A p, pwK l o k = (A, p) → pwK l o (k + 1) = pwS o (A, p) (nth l k) := fun A p h => by rw [e, h]
    generalize pwK l o k = st at *
    obtain ⟨A, p⟩ := st
    have e := hpd A p rfl
    have hlen : A.length ≤ 2 * k := hlen
    have hN1 := snoc1 A (cpO o)
    have hN2 := snoc1 (A ++ [cpO o]) (cpO (nth l k))
    have hN3 := snoc1 A (cpO (nth l k))
    refine VSt.go tb_ok false [] 200 rfl (AllP.c (by assumption) (AllP.c rfl AllP.n)) ?_
    refine VSt.cond rfl (fun g => ?_) (fun g => ?_)
    · have g : ((nth l k).source == o.source) = true := g
      have hs : hasS l o.source = true := List.any_eq_true.2 ⟨nth l k, getD_mem h, g⟩
      obtain ⟨e1, _⟩ := wi_opn (l := l) (o := o) e0 (fun h => by rw [hs] at h; exact absurd h.2 (by decide))
      rw [wiR_no (by rw [e1]; decide), e1]
      refine VSt.go tb_ok false [5] 200 rfl AllP.n ?_
      refine VSt.putO 4 (.p (eOpns true [])) rfl AImp.nil ?_
      refine VSt.go tb_ok false [] 200 rfl AllP.n ?_
      exact EndsP.mk rfl rfl rfl rfl
    have g : ((nth l k).source == o.source) = false := g
    refine VSt.go tb_ok false [] 200 rfl (AllP.c (by assumption) (AllP.c rfl AllP.n)) ?_
    refine VSt.splitD 37 rfl (fun h1 => ?_) (fun h1 => ?_)
    · have h1 : decide (o.source < (nth l k).source) = true := h1
      refine VSt.go tb_ok false [] 200 rfl AllP.n ?_
      refine VSt.cond rfl (fun h2 => ?_) (fun h2 => ?_)
      · have h2 : (!p) = true := h2
        have e2 : pwK l o (k + 1) = (A ++ [cpO o] ++ [cpO (nth l k)], true) := by rw [e]; unfold pwS; rw [h1, h2]; rfl
        refine VSt.go tb_ok false [] 200 rfl AllP.n ?_
        refine VSt.pc rfl rfl rfl rfl rfl rfl rfl rfl ((copyOpn_ok (o := o) hS)) ?_
        refine VSt.go tb_ok false [46] 200 rfl (AllP.c (by omega) (AllP.c (by omega) (AllP.c (fun q hq => match q, hq with | 0, _ => rfl) (AllP.c rfl (AllP.c rfl (AllP.c rfl AllP.n)))))) ?_
        refine VSt.viewO (Wk.vw (ps := [(0, 1)]) (F0 := [(0, .p (eOpns b l)), (3, .p (.fp (eOpn o) 0)), (8, nv k), (6, .acc true 0 9 (A ++ [cpO o]).length), (7, bv true)]) (L0 := [(0, .acc (A ++ [cpO o]).length 9 (fO (A ++ [cpO o])) 45)]) ⟨rfl, rfl, (by repeat (first | exact wf_nil | refine wf_back rfl rfl rfl ?_ | refine wf_imp rfl rfl AImp.litC ?_ | refine wf_imp rfl rfl (AImp.acc hN1.symm (fun _ => rfl)) ?_)), _, rfl, ⟨rfl, BImp.acc hN1.symm (fun q hq => app_opn A (cpO o) _ rfl q hq), trivial⟩⟩) ?_
        refine VSt.go tb_ok false [] 200 rfl (AllP.c (by assumption) (AllP.c rfl AllP.n)) ?_
        refine VSt.pc rfl rfl rfl rfl rfl rfl rfl rfl ((copyOpn_ok (o := nth l k) (hR.ok k h).sz)) ?_
        refine VSt.go tb_ok false [] 200 rfl (AllP.c (by omega) (AllP.c (by omega) (AllP.c (fun q hq => match q, hq with | 0, _ => rfl) (AllP.c rfl (AllP.c rfl (AllP.c rfl (AllP.c (by unfold inR; (try simp only [Int.ofNat_eq_natCast]); omega) AllP.n))))))) ?_
        refine ⟨h, ?_, snoc_all hp g⟩
        dsimp only
        rw [e2]
        exact Wk.vw (ps := [(0, 1)]) ⟨rfl, rfl, (by repeat (first | exact wf_nil | refine wf_back rfl rfl rfl ?_ | refine wf_imp rfl rfl AImp.litC ?_ | refine wf_imp rfl rfl (AImp.acc hN2.symm (fun _ => rfl)) ?_)), _, rfl, ⟨rfl, BImp.acc hN2.symm (fun q hq => app_opn (A ++ [cpO o]) (cpO (nth l k)) _ rfl q hq), trivial⟩⟩
      · have h2 : (!p) = false := h2
        have e2 : pwK l o (k + 1) = (A ++ [cpO (nth l k)], p) := by rw [e]; unfold pwS; rw [h1, h2]; rfl
        refine VSt.go tb_ok false [] 200 rfl (AllP.c (by assumption) (AllP.c rfl AllP.n)) ?_
        refine VSt.pc rfl rfl rfl rfl rfl rfl rfl rfl ((copyOpn_ok (o := nth l k) (hR.ok k h).sz)) ?_
        refine VSt.go tb_ok false [] 200 rfl (AllP.c (by omega) (AllP.c (by omega) (AllP.c (fun q hq => match q, hq with | 0, _ => rfl) (AllP.c rfl (AllP.c rfl (AllP.c rfl (AllP.c (by unfold inR; (try simp only [Int.ofNat_eq_natCast]); omega) AllP.n))))))) ?_
        refine ⟨h, ?_, snoc_all hp g⟩
        dsimp only
        rw [e2]
        exact Wk.vw (ps := [(0, 1)]) ⟨rfl, rfl, (by repeat (first | exact wf_nil | refine wf_back rfl rfl rfl ?_ | refine wf_imp rfl rfl AImp.litC ?_ | refine wf_imp rfl rfl (AImp.acc hN3.symm (fun _ => rfl)) ?_)), _, rfl, ⟨rfl, BImp.acc hN3.symm (fun q hq => app_opn A (cpO (nth l k)) _ rfl q hq), trivial⟩⟩
    · have h1 : decide (o.source < (nth l k).source) = false := h1
      have e2 : pwK l o (k + 1) = (A ++ [cpO (nth l k)], p) := by rw [e]; unfold pwS; rw [h1]; rfl
      refine VSt.go tb_ok false [] 200 rfl (AllP.c (by assumption) (AllP.c rfl AllP.n)) ?_
      refine VSt.pc rfl rfl rfl rfl rfl rfl rfl rfl ((copyOpn_ok (o := nth l k) (hR.ok k h).sz)) ?_
      refine VSt.go tb_ok false [] 200 rfl (AllP.c (by omega) (AllP.c (by omega) (AllP.c (fun q hq => match q, hq with | 0, _ => rfl) (AllP.c rfl (AllP.c rfl (AllP.c rfl (AllP.c (by unfold inR; (try simp only [Int.ofNat_eq_natCast]); omega) AllP.n))))))) ?_
      refine ⟨h, ?_, snoc_all hp g⟩
      dsimp only
      rw [e2]
      exact Wk.vw (ps := [(0, 1)]) ⟨rfl, rfl, (by repeat (first | exact wf_nil | refine wf_back rfl rfl rfl ?_ | refine wf_imp rfl rfl AImp.litC ?_ | refine wf_imp rfl rfl (AImp.acc hN3.symm (fun _ => rfl)) ?_)), _, rfl, ⟨rfl, BImp.acc hN3.symm (fun q hq => app_opn A (cpO (nth l k)) _ rfl q hq), trivial⟩⟩
  have h : k = l.length := by have := nge h; omega
  subst h
  have hh : hasS l o.source = false := by
    rw [← Bool.not_eq_true]
    intro ht
    obtain ⟨y, hy, g⟩ := List.any_eq_true.1 ht
    obtain ⟨i, hi, ei⟩ := mem_getD (d := default) hy
    have := hp i hi
    rw [show nth l i = y from ei] at this
    rw [g] at this; cases this
  have hA2 : ckO o = 0 ∧ hasS l o.source = false := ⟨hO1, hh⟩
  have epl : pwL l o = bif (pwK l o l.length).2 then (pwK l o l.length).1 else (pwK l o l.length).1 ++ [cpO o] := rfl
  generalize pwK l o l.length = st at *
  obtain ⟨A, p⟩ := st
  have hlen : A.length ≤ 2 * l.length := hlen
  have hN1 := snoc1 A (cpO o)
  refine VSt.go tb_ok false [] 200 rfl AllP.n ?_
  refine VSt.cond rfl (fun h3 => ?_) (fun h3 => ?_)
  · have h3 : l.length = 60 := by
      have h3 : (Int.ofNat l.length == 60) = true := h3
      have := eq_of_beq h3
      simp only [Int.ofNat_eq_natCast] at this
      omega
    obtain ⟨e1, _⟩ := wi_long e0 hA2 h3
    rw [wiR_no (by rw [e1]; decide), e1]
    refine VSt.go tb_ok false [5] 200 rfl AllP.n ?_
    refine VSt.putO 4 (.p (eOpns true [])) rfl AImp.nil ?_
    refine VSt.go tb_ok false [] 200 rfl AllP.n ?_
    exact EndsP.mk rfl rfl rfl rfl
  have h3 : ¬ l.length = 60 := fun e => by
    have h3 : (Int.ofNat l.length == 60) = false := h3
    rw [e] at h3
    exact absurd h3 (by decide)
  have hcI := rCheck_ok (r := r) (b := false) (cp_szw (insO_szw hR hO))
  rw [ckReg_cp] at hcI
  refine VSt.go tb_ok false [] 200 rfl AllP.n ?_
  refine VSt.cond rfl (fun h4 => ?y1) (fun h4 => ?y2)
  case' y1 =>
    have h4 : (!p) = true := h4
    have e4 : A ++ [cpO o] = pwL l o := by rw [epl, show p = false by simpa using h4]; rfl
    refine VSt.go tb_ok false [] 200 rfl AllP.n ?_
    refine VSt.pc rfl rfl rfl rfl rfl rfl rfl rfl ((copyOpn_ok (o := o) hS)) ?_
    refine VSt.go tb_ok false [] 200 rfl (AllP.c (by omega) (AllP.c (by omega) (AllP.c (fun q hq => match q, hq with | 0, _ => rfl) (AllP.c rfl (AllP.c rfl (AllP.c rfl AllP.n)))))) ?_
    refine VSt.viewO (Vw.kp [6, 64] [(0, 1)] rfl) ?_
    refine VSt.viewO (Wk.vw (ps := [(0, 0)]) (F0 := [(6, .acc true 0 9 (A ++ [cpO o]).length), (64, .acc true 0 9 (A ++ [cpO o]).length)]) (L0 := [(0, .acc (A ++ [cpO o]).length 9 (fO (A ++ [cpO o])) 45)]) ⟨rfl, rfl, (by repeat (first | exact wf_nil | refine wf_imp rfl rfl (AImp.acc hN1.symm (fun _ => rfl)) ?_)), _, rfl, ⟨rfl, BImp.acc hN1.symm (fun q hq => app_opn A (cpO o) _ rfl q hq), trivial⟩⟩) ?_
    refine VSt.viewO (Vw.freezeA 0 rfl rfl ⟨Nat.le_refl _, rfl, Nat.le_refl _, rfl⟩) ?_
    refine VSt.putO 6 (.p (eOpns false ((insO l o).map cpO))) rfl (pw_slot hR hh e4 rfl) ?_
    refine VSt.putO 64 (.p (eOpns false ((insO l o).map cpO))) rfl (pw_slot hR hh e4 rfl) ?_
  case' y2 =>
    have h4 : (!p) = false := h4
    have e4 : A = pwL l o := by rw [epl, show p = true by simpa using h4]; rfl
    refine VSt.go tb_ok false [] 200 rfl AllP.n ?_
    refine VSt.viewO (Vw.kp [6, 64] [(0, 0)] rfl) ?_
    refine VSt.viewO (Vw.freezeA 0 rfl rfl ⟨Nat.le_refl _, rfl, Nat.le_refl _, rfl⟩) ?_
    refine VSt.putO 6 (.p (eOpns false ((insO l o).map cpO))) rfl (pw_slot hR hh e4 rfl) ?_
    refine VSt.putO 64 (.p (eOpns false ((insO l o).map cpO))) rfl (pw_slot hR hh e4 rfl) ?_
  all_goals
    rcases ckReg_or (insO l o) with ⟨_, e5⟩ | ⟨_, e5⟩
    · obtain ⟨e1, _⟩ := wi_good e0 hA2 h3 e5
      rw [wiR_yes e1, e1]
      rw [e5] at hcI
      refine VSt.pc rfl rfl rfl rfl rfl rfl rfl rfl (hcI) ?_
      refine VSt.go tb_ok false [] 200 rfl AllP.n ?_
      refine VSt.cond rfl (fun h => absurd h (by decide)) (fun _ => ?_)
      refine VSt.go tb_ok false [] 200 rfl AllP.n ?_
      exact EndsP.mk rfl rfl rfl rfl
    · obtain ⟨e1, _⟩ := wi_bad e0 hA2 h3 (by rw [e5]; decide)
      rw [wiR_no (by rw [e1]; decide), e1]
      rw [e5] at hcI
      refine VSt.pc rfl rfl rfl rfl rfl rfl rfl rfl (hcI) ?_
      refine VSt.go tb_ok false [] 200 rfl AllP.n ?_
      refine VSt.cond rfl (fun _ => ?_) (fun h => absurd h (by decide))
      refine VSt.go tb_ok false [5] 200 rfl AllP.n ?_
      refine VSt.putO 4 (.p (eOpns true [])) rfl AImp.nil ?_
      refine VSt.go tb_ok false [] 200 rfl AllP.n ?_
      exact EndsP.mk rfl rfl rfl rfl
end Go.Proofs.YtbieflpgjmgaiaaGreat
/- Walks: Without and Dates of both sides, whatever the openings; SameOpenings. -/
set_option maxRecDepth 100000
namespace Go.Proofs.YtbieflpgjmgaiaaGreat
variable {r : Rm}
def eOpnF (i j : Bool) (o : Opn) : List PV := [.int .i64 o.source, .int .i64 o.register, .int .i64 o.day, .int .i64 o.through, .int .i64 o.lawful, eInts i o.inn, eInts j o.out, .int .i64 o.known, .int .i64 o.until_]
set_option maxHeartbeats 4000000 in
theorem sameO_ok {b b2 : Bool} {l : List Opn} {i j : Nat → Bool} (hn : l.length ≤ 1000) (h8 : ∀ k, k < l.length → (nth l k).inn.length ≤ 1000 ∧ (nth l k).out.length ≤ 1000) :
    VP (sE r) 44 [.p (eOpns b l), .p (.lst 45 b2 l.length fun k => eOpnF (i k) (j k) (nth l k))] (bv true) := by
  refine VP.of (fn := Tryz.f44) tb_ok (wk_ok rfl) (by kernel_rfl) rfl rfl rfl ?_
  refine VSt.go tb_ok false [] 200 rfl AllP.n ?_
  refine VSt.loopT (ti := 6) l.length [0, 1] (fun _ => [(5, bv true)]) (fun _ => []) (fun _ => True) rfl rfl (u0_cons rfl (AImp.of_eq (by rw [show (Int.ofNat l.length == Int.ofNat l.length) = true from beq_self_eq_true _])) u0_nil) trivial trivial (fun k hk _ => ?_)
  refine VSt.go tb_ok false [] 200 rfl AllP.n ?_
  refine VSt.splitO 20 rfl (fun h => ?_) (fun h => ?_)
  · have h := nlt h
    obtain ⟨g1, g2⟩ := h8 k h
    refine VSt.go tb_ok false [] 200 rfl AllP.n ?_
    refine VSt.cond rfl (fun _ => ?_) (fun g => absurd g (by decide))
    refine VSt.go tb_ok false [] 200 rfl (AllP.c (by assumption) (AllP.c rfl (AllP.c (by assumption) (AllP.c rfl AllP.n)))) ?_
    refine VSt.pc rfl rfl rfl rfl rfl rfl rfl rfl ((same_ok (b := (nth l k).inB) (b2 := i k) (l := (nth l k).inn) g1)) ?_
    refine VSt.go tb_ok false [] 200 rfl AllP.n ?_
    refine VSt.pc rfl rfl rfl rfl rfl rfl rfl rfl ((same_ok (b := (nth l k).outB) (b2 := j k) (l := (nth l k).out) g2)) ?_
    refine VSt.go tb_ok false [] 200 rfl AllP.n ?_
    refine VSt.splitO 44 rfl (fun q => ?_) (fun q => ?_)
    rotate_left
    · exact absurd q (by decide)
    refine VSt.go tb_ok false [] 200 rfl AllP.n ?_
    refine VSt.splitO 47 rfl (fun q => ?_) (fun q => ?_)
    rotate_left
    · exact absurd q (by decide)
    refine VSt.go tb_ok false [53] 200 rfl AllP.n ?_
    refine VSt.putO 52 (bv true) rfl (AImp.of_eq (by rw [beq_self_eq_true])) ?_
    refine VSt.go tb_ok false [] 200 rfl AllP.n ?_
    refine VSt.splitO 54 rfl (fun q => ?_) (fun q => ?_)
    rotate_left
    · exact absurd q (by decide)
    refine VSt.go tb_ok false [60] 200 rfl AllP.n ?_
    refine VSt.putO 59 (bv true) rfl (AImp.of_eq (by rw [beq_self_eq_true])) ?_
    refine VSt.go tb_ok false [] 200 rfl AllP.n ?_
    refine VSt.splitO 61 rfl (fun q => ?_) (fun q => ?_)
    rotate_left
    · exact absurd q (by decide)
    refine VSt.go tb_ok false [67] 200 rfl AllP.n ?_
    refine VSt.putO 66 (bv true) rfl (AImp.of_eq (by rw [beq_self_eq_true])) ?_
    refine VSt.go tb_ok false [] 200 rfl AllP.n ?_
    refine VSt.splitO 68 rfl (fun q => ?_) (fun q => ?_)
    rotate_left
    · exact absurd q (by decide)
    refine VSt.go tb_ok false [74] 200 rfl AllP.n ?_
    refine VSt.putO 73 (bv true) rfl (AImp.of_eq (by rw [beq_self_eq_true])) ?_
    refine VSt.go tb_ok false [] 200 rfl AllP.n ?_
    refine VSt.splitO 75 rfl (fun q => ?_) (fun q => ?_)
    rotate_left
    · exact absurd q (by decide)
    refine VSt.go tb_ok false [81] 200 rfl AllP.n ?_
    refine VSt.putO 80 (bv true) rfl (AImp.of_eq (by rw [beq_self_eq_true])) ?_
    refine VSt.go tb_ok false [] 200 rfl AllP.n ?_
    refine VSt.splitO 82 rfl (fun q => ?_) (fun q => ?_)
    rotate_left
    · exact absurd q (by decide)
    refine VSt.go tb_ok false [88] 200 rfl AllP.n ?_
    refine VSt.putO 87 (bv true) rfl (AImp.of_eq (by rw [beq_self_eq_true])) ?_
    refine VSt.go tb_ok false [] 200 rfl AllP.n ?_
    refine VSt.splitO 89 rfl (fun q => ?_) (fun q => ?_)
    rotate_left
    · exact absurd q (by decide)
    refine VSt.go tb_ok false [95] 200 rfl AllP.n ?_
    refine VSt.putO 94 (bv true) rfl (AImp.of_eq (by rw [beq_self_eq_true])) ?_
    refine VSt.go tb_ok false [] 200 rfl (AllP.c (by unfold inR; (try simp only [Int.ofNat_eq_natCast]); omega) AllP.n) ?_
    refine ⟨h, ?_, trivial⟩
    (refine Vw.drop (by repeat (first | exact wf_nil | refine wf_back rfl rfl rfl ?_ | refine wf_cons rfl (by assumption) (ren_only _ (by assumption)) ?_)))
  · have h : k = l.length := by have := nge h; omega
    refine VSt.go tb_ok false [] 200 rfl AllP.n ?_
    exact EndsP.mk rfl rfl rfl rfl
theorem sameCp_ok {b b2 : Bool} {l : List Opn} (hn : l.length ≤ 1000) (h8 : ∀ k, k < l.length → (nth l k).inn.length ≤ 1000 ∧ (nth l k).out.length ≤ 1000) :
    VP (sE r) 44 [.p (eOpns b l), .p (eOpns b2 (l.map cpO))] (bv true) :=
  VP.imp (sameO_ok (b2 := b2) (i := fun _ => false) (j := fun _ => false) hn h8) ⟨AImp.refl _, by
    show AImp (.p (.lst _ b2 (l.map cpO).length _)) _
    rw [List.length_map]
    exact AImp.lst fun k hk => by rw [nth_cp hk]; rfl, trivial⟩
theorem sameI_ok {b b2 : Bool} {l : List Opn} (hn : l.length ≤ 1000) (h8 : ∀ k, k < l.length → (nth l k).inn.length ≤ 1000 ∧ (nth l k).out.length ≤ 1000) :
    VP (sE r) 44 [.p (eOpns b l), .p (eOpns b2 l)] (bv true) :=
  VP.imp (sameO_ok (b2 := b2) (i := fun k => (nth l k).inB) (j := fun k => (nth l k).outB) hn h8) ⟨AImp.refl _, AImp.refl _, trivial⟩
theorem Reg.in8 {l : List Opn} (h : Reg l) : ∀ k, k < l.length → (nth l k).inn.length ≤ 1000 ∧ (nth l k).out.length ≤ 1000 := fun k hk => by
  have := namedB_len (h.ok k hk).inn
  have := namedB_len (h.ok k hk).out
  omega
noncomputable def woE (l : List Opn) (s : Int) : Int := if ckReg l = 0 then (bif hasS l s then 0 else 3) else 61
noncomputable def woV (l : List Opn) (s : Int) : PV := if ckReg l = 0 then woP l s else eOpns true []
noncomputable def woR (l : List Opn) (s : Int) : PV := if ckReg l = 0 then (bif hasS l s then eLO (lessI l s) else eOpns true []) else eOpns true []
theorem WithoutW_ok {b : Bool} {l : List Opn} {s : Int} (hz : SzsW l) : VP (sE r) 30 [.p (eOpns b l), iv s] (.tup [.p (woV l s), iv (woE l s)]) := by
  rcases ckReg_or l with ⟨hR, e⟩ | ⟨hR, e⟩
  · have h := Without_ok (r := r) (b := b) (s := s) hR
    rw [show woV l s = woP l s from if_pos e, show woE l s = _ from if_pos e]
    exact h
  · have hc := check_ok (r := r) (b := b) hz
    rw [e] at hc
    rw [show woV l s = eOpns true [] from if_neg (by rw [e]; decide), show woE l s = 61 from if_neg (by rw [e]; decide)]
    refine VP.of (fn := Tryz.f30) tb_ok (wk_ok rfl) (by kernel_rfl) rfl rfl rfl ?_
    refine VSt.go tb_ok false [] 200 rfl AllP.n ?_
    refine VSt.pc rfl rfl rfl rfl rfl rfl rfl rfl (hc) ?_
    refine VSt.go tb_ok false [] 200 rfl AllP.n ?_
    refine VSt.cond rfl (fun _ => ?_) (fun h => absurd h (by decide))
    refine VSt.go tb_ok false [5] 200 rfl AllP.n ?_
    refine VSt.putO 4 (.p (eOpns true [])) rfl AImp.nil ?_
    refine VSt.go tb_ok false [] 200 rfl AllP.n ?_
    exact EndsP.mk rfl rfl rfl rfl
theorem rWithout_ok {b : Bool} {l : List Opn} {s : Int} (hz : SzsW l) : VP (sE r) 46 [.p (eOpns b l), iv s] (.tup [.p (woR l s), iv (woE l s)]) := by
  have hc := rCheck_ok (r := r) (b := b) hz
  refine VP.of (fn := Tryz.f46) tb_ok (wk_ok rfl) (by kernel_rfl) rfl rfl rfl ?_
  refine VSt.go tb_ok false [] 200 rfl AllP.n ?_
  rcases ckReg_or l with ⟨hR, e⟩ | ⟨hR, e⟩
  rotate_left
  · rw [e] at hc
    rw [show woR l s = eOpns true [] from if_neg (by rw [e]; decide), show woE l s = 61 from if_neg (by rw [e]; decide)]
    refine VSt.pc rfl rfl rfl rfl rfl rfl rfl rfl (hc) ?_
    refine VSt.go tb_ok false [] 200 rfl AllP.n ?_
    refine VSt.cond rfl (fun _ => ?_) (fun h => absurd h (by decide))
    refine VSt.go tb_ok false [5] 200 rfl AllP.n ?_
    refine VSt.putO 4 (.p (eOpns true [])) rfl AImp.nil ?_
    refine VSt.go tb_ok false [] 200 rfl AllP.n ?_
    exact EndsP.mk rfl rfl rfl rfl
  rw [e] at hc
  have hlen : (lessI l s).length ≤ l.length := lessI_len
  have hl := hR.len
  have hh := has_len l s
  rw [show woR l s = _ from if_pos e, show woE l s = _ from if_pos e]
  refine VSt.pc rfl rfl rfl rfl rfl rfl rfl rfl (hc) ?_
  refine VSt.go tb_ok false [] 200 rfl AllP.n ?_
  refine VSt.cond rfl (fun h => absurd h (by decide)) (fun _ => ?_)
  refine VSt.go tb_ok false [] 200 rfl AllP.n ?_
  refine VSt.pc rfl rfl rfl rfl rfl rfl rfl rfl ((rless_ok (b := b) (s := s) hR.szs)) ?_
  refine VSt.go tb_ok false [] 200 rfl AllP.n ?_
  refine VSt.cond rfl (fun h => ?_) (fun h => ?_)
  · have h : (Int.ofNat (lessI l s).length == Int.ofNat l.length) = true := h
    rw [hh] at h
    rw [nt h]
    refine VSt.go tb_ok false [5] 200 rfl AllP.n ?_
    refine VSt.putO 4 (.p (eOpns true [])) rfl AImp.nil ?_
    refine VSt.go tb_ok false [] 200 rfl AllP.n ?_
    exact EndsP.mk rfl rfl rfl rfl
  · have h : (Int.ofNat (lessI l s).length == Int.ofNat l.length) = false := h
    rw [hh] at h
    rw [nf h]
    refine VSt.go tb_ok false [] 200 rfl AllP.n ?_
    exact EndsP.mk rfl rfl rfl rfl
noncomputable def dtV (l : List Opn) : List Int := if ckReg l = 0 then setL (datL l) else []
theorem dtV_len {l : List Opn} : (dtV l).length ≤ 1000 := by
  unfold dtV
  by_cases e : ckReg l = 0
  · rw [if_pos e]
    have h1 := datK_len (reg_of e).len l.length
    have h2 := setL_len (datL l)
    unfold datL at h2 ⊢
    omega
  · rw [if_neg e]; decide
theorem DatesW_ok {b : Bool} {l : List Opn} (hz : SzsW l) : VP (sE r) 29 [.p (eOpns b l)] (.tup [.p (eL (dtV l)), iv (ckReg l)]) := by
  rcases ckReg_or l with ⟨hR, e⟩ | ⟨hR, e⟩
  · have h := Dates_ok (r := r) (b := b) hR
    rw [show dtV l = setL (datL l) from if_pos e, e]
    exact h
  · have hc := check_ok (r := r) (b := b) hz
    rw [e] at hc
    rw [show dtV l = [] from if_neg (by rw [e]; decide), e]
    refine VP.of (fn := Tryz.f29) tb_ok (wk_ok rfl) (by kernel_rfl) rfl rfl rfl ?_
    refine VSt.go tb_ok false [] 200 rfl AllP.n ?_
    refine VSt.pc rfl rfl rfl rfl rfl rfl rfl rfl (hc) ?_
    refine VSt.go tb_ok false [] 200 rfl AllP.n ?_
    refine VSt.cond rfl (fun _ => ?_) (fun h => absurd h (by decide))
    refine VSt.go tb_ok false [3] 200 rfl AllP.n ?_
    refine VSt.putO 2 (.p (eL [])) rfl AImp.nil ?_
    refine VSt.go tb_ok false [] 200 rfl AllP.n ?_
    exact EndsP.mk rfl rfl rfl rfl
theorem rDates_ok {b : Bool} {l : List Opn} (hz : SzsW l) : VP (sE r) 47 [.p (eOpns b l)] (.tup [.p (eL (dtV l)), iv (ckReg l)]) := by
  have hc := rCheck_ok (r := r) (b := b) hz
  refine VP.of (fn := Tryz.f47) tb_ok (wk_ok rfl) (by kernel_rfl) rfl rfl rfl ?_
  refine VSt.go tb_ok false [] 200 rfl AllP.n ?_
  rcases ckReg_or l with ⟨hR, e⟩ | ⟨hR, e⟩
  rotate_left
  · rw [e] at hc
    rw [show dtV l = [] from if_neg (by rw [e]; decide), e]
    refine VSt.pc rfl rfl rfl rfl rfl rfl rfl rfl (hc) ?_
    refine VSt.go tb_ok false [] 200 rfl AllP.n ?_
    refine VSt.cond rfl (fun _ => ?_) (fun h => absurd h (by decide))
    refine VSt.go tb_ok false [3] 200 rfl AllP.n ?_
    refine VSt.putO 2 (.p (eL [])) rfl AImp.nil ?_
    refine VSt.go tb_ok false [] 200 rfl AllP.n ?_
    exact EndsP.mk rfl rfl rfl rfl
  have hl := hR.len
  rw [e] at hc
  rw [show dtV l = setL (datL l) from if_pos e, e]
  refine VSt.pc rfl rfl rfl rfl rfl rfl rfl rfl (hc) ?_
  refine VSt.go tb_ok false [] 200 rfl AllP.n ?_
  refine VSt.cond rfl (fun h => absurd h (by decide)) (fun _ => ?_)
  refine VSt.go tb_ok false [] 200 rfl AllP.n ?_
  refine VSt.loopT (ti := 5) l.length [0] (fun k => [(4, .p (eL (setL (datK l k))))]) (fun _ => []) (fun _ => True) rfl rfl (u0_cons rfl AImp.nil u0_nil) trivial trivial (fun k hk _ => ?_)
  have hdl := datK_len hl k
  have hd2 := setL_len (datK l k)
  have hd3 := setL_len (datK l k ++ [(nth l k).known])
  rw [List.length_append, List.length_singleton] at hd3
  refine VSt.go tb_ok false [] 200 rfl AllP.n ?_
  refine VSt.cond rfl (fun h => ?_) (fun h => ?_)
  · have h := nlt h
    have e2 := datK_succ h
    have p1 := put_ok (r := r) (fl := (setL (datK l k)).isEmpty) (l := setL (datK l k)) (x := (nth l k).known) (by omega)
    rw [putL_eq] at p1
    have p2 := put_ok (r := r) (fl := (setL (datK l k ++ [(nth l k).known])).isEmpty) (l := setL (datK l k ++ [(nth l k).known])) (x := (nth l k).until_) (by omega)
    rw [putL_eq] at p2
    refine VSt.go tb_ok false [] 200 rfl (AllP.c (by assumption) (AllP.c rfl AllP.n)) ?_
    refine VSt.pc rfl rfl rfl rfl rfl rfl rfl rfl (p1) ?_
    refine VSt.go tb_ok false [] 200 rfl (AllP.c (by assumption) (AllP.c rfl AllP.n)) ?_
    refine VSt.cond rfl (fun g => ?_) (fun g => ?_)
    · have g : ((nth l k).until_ == 0) = false := nt g
      refine VSt.go tb_ok false [] 200 rfl (AllP.c (by assumption) (AllP.c rfl AllP.n)) ?_
      refine VSt.pc rfl rfl rfl rfl rfl rfl rfl rfl (p2) ?_
      refine VSt.go tb_ok false [] 200 rfl (AllP.c (by unfold inR; (try simp only [Int.ofNat_eq_natCast]); omega) AllP.n) ?_
      refine ⟨h, ?_, trivial⟩
      dsimp only
      rw [show datK l (k + 1) = datK l k ++ [(nth l k).known] ++ [(nth l k).until_] by rw [e2]; unfold datO; rw [g, List.append_assoc]; rfl]
      (refine Vw.drop (by repeat (first | exact wf_nil | refine wf_back rfl rfl rfl ?_ | refine wf_cons rfl (by assumption) (ren_only _ (by assumption)) ?_)))
    · have g : ((nth l k).until_ == 0) = true := nf g
      refine VSt.go tb_ok false [] 200 rfl (AllP.c (by unfold inR; (try simp only [Int.ofNat_eq_natCast]); omega) AllP.n) ?_
      refine ⟨h, ?_, trivial⟩
      dsimp only
      rw [show datK l (k + 1) = datK l k ++ [(nth l k).known] by rw [e2]; unfold datO; rw [g]; rfl]
      (refine Vw.drop (by repeat (first | exact wf_nil | refine wf_back rfl rfl rfl ?_ | refine wf_cons rfl (by assumption) (ren_only _ (by assumption)) ?_)))
  · have h : k = l.length := by have := nge h; omega
    subst h
    rw [show datK l l.length = datL l from rfl]
    refine VSt.go tb_ok false [] 200 rfl AllP.n ?_
    exact EndsP.mk rfl rfl rfl rfl
end Go.Proofs.YtbieflpgjmgaiaaGreat
/- The law ChestChecks. -/
set_option maxRecDepth 100000
namespace Go.Proofs.YtbieflpgjmgaiaaGreat
variable {r : Rm}
theorem in8_nil : ∀ k, k < ([] : List Opn).length → (nth [] k).inn.length ≤ 1000 ∧ (nth [] k).out.length ≤ 1000 := fun k hk => absurd hk (Nat.not_lt_zero k)
theorem sameW_ok {l : List Opn} {o : Opn} : VP (sE r) 44 [.p (wiP l o), .p (wiR l o)] (bv true) := by
  by_cases e : wiE l o = 0
  · have hR : Reg (insO l o) := by
      by_cases c1 : ckReg l = 0
      · by_cases c2 : ckO o = 0 ∧ hasS l o.source = false
        · by_cases c3 : l.length = 60
          · rw [(wi_long c1 c2 c3).1] at e; exact absurd e (by decide)
          · rw [wi_in c1 c2 c3] at e; exact reg_of e
        · rw [(wi_opn c1 c2).1] at e; exact absurd e (by decide)
      · rw [(wi_reg c1).1] at e; exact absurd e (by decide)
    rw [show wiP l o = eOpns false (insO l o) from if_pos e, wiR_yes e]
    exact sameCp_ok (by have := hR.len; omega) hR.in8
  · rw [show wiP l o = eOpns true [] from if_neg e, wiR_no e]
    exact sameI_ok (by decide) in8_nil
theorem sameX_ok {l : List Opn} {s : Int} : VP (sE r) 44 [.p (woV l s), .p (woR l s)] (bv true) := by
  by_cases c1 : ckReg l = 0
  · have hR := reg_of c1
    rw [show woV l s = woP l s from if_pos c1, show woR l s = _ from if_pos c1]
    unfold woP
    cases hasS l s with
    | true =>
      show VP _ _ [.p (eOpns false (lessP l s)), .p (eOpns (lessI l s).isEmpty (lessI l s))] _
      rw [lessI_eq]
      have hR2 := hR.lessP s
      exact sameCp_ok (by have := hR2.len; omega) hR2.in8
    | false => exact sameI_ok (l := []) (by decide) in8_nil
  · rw [show woV l s = eOpns true [] from if_neg c1, show woR l s = eOpns true [] from if_neg c1]
    exact sameI_ok (by decide) in8_nil
set_option maxHeartbeats 8000000 in
theorem chestChecks_law {t : Tr (List Value × TypeId)} {b : Bool} {l : List Opn} {o : Opn} (hz : SzsW l) (ho : SzW o) : VP (sE (t, true)) 9 [.p (eOpns b l), .agg ((eOpn o).map .p)] (bv true) := by
  refine VP.of (fn := Tryz.f9) tb_ok (wk_ok rfl) (by kernel_rfl) rfl rfl rfl ?_
  refine VSt.go tb_ok false [] 200 rfl AllP.n ?_
  refine VSt.viewO (Vw.freezeC 0 (eOpn o) rfl rfl) ?_
  refine VSt.pc rfl rfl rfl rfl rfl rfl rfl rfl ((VP.hook rfl)) ?_
  refine VSt.go tb_ok false [] 200 rfl AllP.n ?_
  refine VSt.pc rfl rfl rfl rfl rfl rfl rfl rfl ((With_ok (b := b) hz ho)) ?_
  refine VSt.go tb_ok false [] 200 rfl AllP.n ?_
  refine VSt.pc rfl rfl rfl rfl rfl rfl rfl rfl ((rWith_ok (b := b) hz ho)) ?_
  refine VSt.go tb_ok false [] 200 rfl AllP.n ?_
  refine VSt.pc rfl rfl rfl rfl rfl rfl rfl rfl ((WithoutW_ok (b := b) (s := o.source) hz)) ?_
  refine VSt.go tb_ok false [] 200 rfl AllP.n ?_
  refine VSt.pc rfl rfl rfl rfl rfl rfl rfl rfl ((rWithout_ok (b := b) (s := o.source) hz)) ?_
  refine VSt.go tb_ok false [] 200 rfl AllP.n ?_
  refine VSt.pc rfl rfl rfl rfl rfl rfl rfl rfl ((DatesW_ok (b := b) hz)) ?_
  refine VSt.go tb_ok false [] 200 rfl AllP.n ?_
  refine VSt.pc rfl rfl rfl rfl rfl rfl rfl rfl ((rDates_ok (b := b) hz)) ?_
  refine VSt.go tb_ok false [] 200 rfl AllP.n ?_
  refine VSt.pc rfl rfl rfl rfl rfl rfl rfl rfl ((sameW_ok (l := l) (o := o))) ?_
  refine VSt.go tb_ok false [] 200 rfl AllP.n ?_
  refine VSt.pc rfl rfl rfl rfl rfl rfl rfl rfl ((sameX_ok (l := l) (s := o.source))) ?_
  refine VSt.go tb_ok false [] 200 rfl AllP.n ?_
  refine VSt.pc rfl rfl rfl rfl rfl rfl rfl rfl ((same_ok (b := (dtV l).isEmpty) (b2 := (dtV l).isEmpty) (l := dtV l) dtV_len)) ?_
  refine VSt.go tb_ok false [] 200 rfl AllP.n ?_
  refine VSt.splitD 68 rfl (fun q => ?_) (fun q => ?_)
  rotate_left
  · exact absurd q (by decide)
  refine VSt.go tb_ok false [] 200 rfl AllP.n ?_
  refine VSt.splitD 71 rfl (fun q => ?_) (fun q => ?_)
  rotate_left
  · exact absurd q (by decide)
  refine VSt.go tb_ok false [75] 200 rfl AllP.n ?_
  refine VSt.putD 74 (bv true) rfl (AImp.of_eq (by rw [beq_self_eq_true])) ?_
  refine VSt.go tb_ok false [] 200 rfl AllP.n ?_
  refine VSt.splitD 76 rfl (fun q => ?_) (fun q => ?_)
  rotate_left
  · exact absurd q (by decide)
  refine VSt.go tb_ok false [] 200 rfl AllP.n ?_
  refine VSt.splitD 79 rfl (fun q => ?_) (fun q => ?_)
  rotate_left
  · exact absurd q (by decide)
  refine VSt.go tb_ok false [83] 200 rfl AllP.n ?_
  refine VSt.putD 82 (bv true) rfl (AImp.of_eq (by rw [beq_self_eq_true])) ?_
  refine VSt.go tb_ok false [] 200 rfl AllP.n ?_
  refine VSt.splitD 84 rfl (fun q => ?_) (fun q => ?_)
  rotate_left
  · exact absurd q (by decide)
  refine VSt.go tb_ok false [] 200 rfl AllP.n ?_
  refine VSt.splitD 87 rfl (fun q => ?_) (fun q => ?_)
  rotate_left
  · exact absurd q (by decide)
  refine VSt.go tb_ok false [91] 200 rfl AllP.n ?_
  refine VSt.putD 90 (bv true) rfl (AImp.of_eq (by rw [beq_self_eq_true])) ?_
  refine VSt.go tb_ok false [] 200 rfl AllP.n ?_
  refine VSt.splitD 92 rfl (fun q => ?_) (fun q => ?_)
  rotate_left
  · exact absurd q (by decide)
  refine VSt.go tb_ok false [] 200 rfl AllP.n ?_
  refine VSt.pcD rfl rfl rfl rfl rfl rfl rfl rfl ((ckO_ok ho)) ?_
  refine VSt.go tb_ok false [] 200 rfl AllP.n ?_
  refine VSt.pcD rfl rfl rfl rfl rfl rfl rfl rfl ((rCkO_ok ho)) ?_
  refine VSt.go tb_ok false [98] 200 rfl AllP.n ?_
  refine VSt.putD 97 (bv true) rfl (AImp.of_eq (by rw [beq_self_eq_true])) ?_
  refine VSt.go tb_ok false [] 200 rfl AllP.n ?_
  refine VSt.splitD 99 rfl (fun q => ?_) (fun q => ?_)
  rotate_left
  · exact absurd q (by decide)
  refine VSt.go tb_ok false [] 200 rfl AllP.n ?_
  refine VSt.pcD rfl rfl rfl rfl rfl rfl rfl rfl ((check_ok (b := b) hz)) ?_
  refine VSt.go tb_ok false [] 200 rfl AllP.n ?_
  refine VSt.pcD rfl rfl rfl rfl rfl rfl rfl rfl ((rCheck_ok (b := b) hz)) ?_
  refine VSt.go tb_ok false [105] 200 rfl AllP.n ?_
  refine VSt.putD 104 (bv true) rfl (AImp.of_eq (by rw [beq_self_eq_true])) ?_
  refine VSt.go tb_ok false [] 200 rfl AllP.n ?_
  exact EndsP.mk rfl rfl rfl rfl
end Go.Proofs.YtbieflpgjmgaiaaGreat
