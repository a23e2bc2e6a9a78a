/- The program's StemLess returns true for every stem and every pair of numbers, valid or not, without an exception and without changing its arguments: a part of the proof. -/
import Derived.Test.YtncpeobcgmkkbaaGreatVp
set_option linter.all false
/- One more Never, one more copy: plain facts. -/
set_option maxRecDepth 100000
namespace Go.Proofs.YtncpeobcgmkkbaaGreat
theorem posI_lt : ∀ {l : List Copy} {id : Int} {k : Nat}, k < posI l id → (l.getD k default).id < id
  | [], id, k, h => by simp [posI] at h
  | a :: l, id, k, h => by
    by_cases h1 : a.id < id
    · have e : posI (a :: l) id = posI l id + 1 := by unfold posI; rw [List.takeWhile_cons, if_pos (by simpa using h1)]; rfl
      cases k with
      | zero => simpa using h1
      | succ k => have := posI_lt (l := l) (id := id) (k := k) (by omega); simpa using this
    · have e : posI (a :: l) id = 0 := by unfold posI; rw [List.takeWhile_cons, if_neg (by simpa using h1)]; rfl
      omega
theorem posI_ge : ∀ {l : List Copy} {id : Int}, posI l id < l.length → ¬ (l.getD (posI l id) default).id < id
  | [], id, h => by simp at h
  | a :: l, id, h => by
    by_cases h1 : a.id < id
    · have e : posI (a :: l) id = posI l id + 1 := by unfold posI; rw [List.takeWhile_cons, if_pos (by simpa using h1)]; rfl
      rw [e] at h ⊢
      have := posI_ge (l := l) (id := id) (by simpa using h)
      simpa using this
    · have e : posI (a :: l) id = 0 := by unfold posI; rw [List.takeWhile_cons, if_neg (by simpa using h1)]; rfl
      rw [e]; simpa using h1
/-- With one more copy. -/
def plusS (s : Stem) (c : Copy) : Stem := ⟨false, insAt s.copies c (posI s.copies c.id), s.costs, s.nn, s.never⟩
theorem plus_ck {s : Stem} {c : Copy} (h0 : ckStem s = 0) (hc : ckCopy c = 0) (hno : ¬ 0 ≤ place s c.id) (hp : 0 < s.copies.length) (hw : c.words.length = (s.copies.getD 0 default).words.length) (hlt : s.copies.length < 7) (hnv : s.never = []) : ckStem (plusS s c) = 0 := by
  have hv := valid_of h0
  have hle := posI_le s.copies c.id
  have hlen := ins_len s.copies c hle
  have hne := place_no hno
  have hck : ∀ k, k < s.copies.length + 1 → ckCopy ((insAt s.copies c (posI s.copies c.id)).getD k default) = 0 ∧ ((insAt s.copies c (posI s.copies c.id)).getD k default).words.length = (s.copies.getD 0 default).words.length := fun k hk => by
    rw [ins_at _ _ hle]
    split
    · exact ⟨hv.copy (by omega), hv.words (by omega)⟩
    · split
      · exact ⟨hc, hw⟩
      · exact ⟨hv.copy (by omega), hv.words (by omega)⟩
  have hco : ckCosts s.costs = 0 := by
    unfold ckStem at h0
    split at h0
    · cases h0
    · rename_i h1
      simp only [Bool.or_eq_true, not_or, Bool.not_eq_true] at h1
      obtain ⟨_, _, h3, _, _⟩ := h1
      simpa using h3
  unfold ckStem
  rw [if_neg]
  show ¬ (decide (7 < Int.ofNat (insAt s.copies c (posI s.copies c.id)).length) || (decide (40 < Int.ofNat s.never.length) || (!(ckCosts s.costs == 0) || ((List.range (insAt s.copies c (posI s.copies c.id)).length).any (badC (insAt s.copies c (posI s.copies c.id))) || (List.range s.never.length).any (badN (plusS s c)))))) = true
  rw [hlen, hnv, hco, any_range_false (n := s.copies.length + 1) (fun k hk => ?_)]
  · rw [decide_eq_false (by simp only [Int.ofNat_eq_natCast]; omega)]; simp
  · unfold badC
    rw [(hck k hk).1, (hck k hk).2, (hck 0 (by omega)).2]
    simp only [beq_self_eq_true, Bool.not_true, Bool.false_or, Bool.or_false]
    by_cases hk0 : 0 < k
    · rw [decide_eq_true hk0, Bool.true_and, decide_eq_false]
      rw [ins_at _ _ hle, ins_at _ _ hle]
      by_cases h1 : k < posI s.copies c.id
      · rw [if_pos h1, if_pos (by omega)]
        have := hv.asc (k := k) (by omega) hk0
        omega
      · rw [if_neg h1]
        by_cases h2 : k = posI s.copies c.id
        · rw [if_pos h2, if_pos (by omega)]
          have := posI_lt (l := s.copies) (id := c.id) (k := k - 1) (by omega)
          omega
        · rw [if_neg h2, if_neg (by omega)]
          by_cases h3 : k - 1 = posI s.copies c.id
          · rw [if_pos h3]
            have h4 := posI_ge (l := s.copies) (id := c.id) (by omega)
            have h5 := hne (k - 1) (by omega)
            rw [h3] at h5 ⊢
            omega
          · rw [if_neg h3]
            have := hv.asc (k := k - 1) (by omega) (by omega)
            omega
    · rw [decide_eq_false hk0]; rfl
theorem plus_twice {s : Stem} {c : Copy} {i : Nat} (hi : i < s.copies.length) (hw : c.words = (s.copies.getD i default).words) (hnv : s.never = []) : Twice s (plusS s c) i (posI s.copies c.id) := by
  have hle := posI_le s.copies c.id
  refine ⟨ins_len s.copies c hle, hi, hle, rfl, fun x hx => ?_, fun x hx hx2 => ?_, ?_, hnv, hnv⟩
  · show ((insAt s.copies c (posI s.copies c.id)).getD x default).words = _
    rw [ins_at _ _ hle, if_pos hx]
  · show ((insAt s.copies c (posI s.copies c.id)).getD (x + 1) default).words = _
    rw [ins_at _ _ hle, if_neg (by omega), if_neg (by omega)]; rfl
  · show ((insAt s.copies c (posI s.copies c.id)).getD (posI s.copies c.id) default).words = _
    rw [ins_at _ _ hle, if_neg (by omega), if_pos rfl, hw]
theorem studE_of {s : Stem} (h : studE s = 0) : ckStem s = 0 ∧ (searchS s).least ≠ [] := by
  unfold studE at h
  split at h
  · rename_i h0
    split at h
    · exact absurd h (by decide)
    · rename_i h1; exact ⟨h0, h1⟩
  · rename_i h0; exact absurd h h0
theorem studE_to {s : Stem} (h0 : ckStem s = 0) (h : (searchS s).least ≠ []) : studE s = 0 := by
  unfold studE
  rw [if_pos h0, if_neg h]
/-- A copy more costs nothing. -/
theorem plus_cost {s : Stem} {c : Copy} {i : Nat} (h : studE s = 0) (hd : ckStem (plusS s c) = 0) (hi : i < s.copies.length) (hw : c.words = (s.copies.getD i default).words) (hnv : s.never = []) : studE (plusS s c) = 0 ∧ (searchS (plusS s c)).cost = (searchS s).cost := by
  obtain ⟨h0, h1⟩ := studE_of h
  have hv := valid_of h0
  have hvd := valid_of hd
  have ht := plus_twice (c := c) hi hw hnv
  obtain ⟨p, _, hp, hpc⟩ := least_ex hv h1
  obtain ⟨q, hq, hqc⟩ := ht.up hvd hp
  obtain ⟨g1, g2⟩ := least_of hvd hq
  obtain ⟨q2, _, hq2, hq2c⟩ := least_ex hvd g1
  obtain ⟨p2, hp2, hp2c⟩ := ht.down hv hvd hq2
  have g3 := (least_of hv hp2).2
  exact ⟨studE_to hd g1, by omega⟩
/-- The first Id that is not there. -/
def mexS (s : Stem) : Nat → Int
  | 0 => 1
  | k + 1 => bif (s.copies.getD k default).id == mexS s k then mexS s k + 1 else mexS s k
theorem mex_inv {s : Stem} (hv : s.Valid) : ∀ k, k ≤ s.copies.length → 1 ≤ mexS s k ∧ mexS s k ≤ k + 1 ∧ (∀ j, j < k → (s.copies.getD j default).id ≠ mexS s k) ∧ ∀ j, k ≤ j → j < s.copies.length → mexS s k ≤ (s.copies.getD j default).id
  | 0, _ => ⟨Int.le_refl 1, by show (1 : Int) ≤ ((0 : Nat) : Int) + 1; decide, fun j hj => absurd hj (Nat.not_lt_zero j), fun j _ hj => hv.id_pos hj⟩
  | k + 1, hk => by
    obtain ⟨h1, h2, h3, h4⟩ := mex_inv hv k (by omega)
    have hge := h4 k (Nat.le_refl _) (by omega)
    by_cases e : (s.copies.getD k default).id = mexS s k
    · have em : mexS s (k + 1) = mexS s k + 1 := by
        show (bif (s.copies.getD k default).id == mexS s k then _ else _) = _
        rw [e, beq_self_eq_true]; rfl
      rw [em]
      refine ⟨by omega, by omega, fun j hj => ?_, fun j hj hjn => ?_⟩
      · by_cases ej : j = k
        · subst ej; omega
        · have := hv.ids.lt (show j < k by omega) (show k < s.copies.length by omega)
          omega
      · have := hv.ids.lt (show k < j by omega) hjn
        omega
    · have em : mexS s (k + 1) = mexS s k := by
        show (bif (s.copies.getD k default).id == mexS s k then _ else _) = _
        rw [beq_false_of_ne e]; rfl
      rw [em]
      refine ⟨h1, by omega, fun j hj => ?_, fun j hj hjn => h4 j (by omega) hjn⟩
      by_cases ej : j = k
      · subst ej; exact e
      · exact h3 j (by omega)
theorem mex_place {s : Stem} (hv : s.Valid) : ¬ 0 ≤ place s (mexS s s.copies.length) := fun h => by
  obtain ⟨h1, h2⟩ := place_id h
  exact (mex_inv hv s.copies.length (Nat.le_refl _)).2.2.1 _ h1 h2
/-- With one more Never. -/
def noS (s : Stem) (n : Never) : Stem := ⟨s.cn, s.copies, s.costs, moreF s.nn s.never n, moreL s.never n⟩
theorem hasN_mem {l : List Never} {n : Never} (h : hasN l n = true) : n ∈ l := by
  unfold hasN at h
  simp only [Bool.and_eq_true, decide_eq_true_eq, beq_iff_eq] at h
  obtain ⟨h1, h2, h3⟩ := h
  have h4 : l.getD (posN l n) default ∈ l := by
    rw [List.getD_eq_getElem?_getD, List.getElem?_eq_getElem h1]
    exact List.getElem_mem h1
  have h5 : l.getD (posN l n) default = n := by
    cases hx : l.getD (posN l n) default
    rw [hx] at h2 h3
    cases n
    cases h2; cases h3; rfl
  rwa [h5] at h4
theorem more_mem {l : List Never} {n z : Never} : z ∈ moreL l n ↔ z ∈ l ∨ z = n := by
  unfold moreL
  cases h : hasN l n with
  | true =>
    simp only [cond_true]
    exact ⟨.inl, fun h2 => h2.elim id fun e => e ▸ hasN_mem h⟩
  | false =>
    simp only [cond_false]
    unfold insN
    have h1 : z ∈ l ↔ z ∈ l.take (posN l n) ∨ z ∈ l.drop (posN l n) := by rw [← List.mem_append, List.take_append_drop]
    rw [h1, List.mem_append, List.mem_cons]
    constructor
    · rintro (h2 | h2 | h2)
      · exact .inl (.inl h2)
      · exact .inr h2
      · exact .inl (.inr h2)
    · rintro ((h2 | h2) | h2)
      · exact .inl h2
      · exact .inr (.inr h2)
      · exact .inr (.inl h2)
theorem no_more {s : Stem} {n : Never} {u v : Int} (h : isNever s u v = true) : isNever (noS s n) u v = true := by
  unfold isNever at h ⊢
  rw [List.any_eq_true] at h ⊢
  obtain ⟨z, h1, h2⟩ := h
  exact ⟨z, more_mem.2 (.inl h1), h2⟩
theorem no_less {s : Stem} {n : Never} {u v : Int} (h : isNever (noS s n) u v = true) : isNever s u v = true ∨ (u = n.src ∧ v = n.dst) := by
  unfold isNever at h ⊢
  rw [List.any_eq_true] at h ⊢
  obtain ⟨z, h1, h2⟩ := h
  rcases more_mem.1 h1 with h3 | h3
  · exact .inl ⟨z, h3, h2⟩
  · subst h3
    simp only [Bool.and_eq_true, beq_iff_eq] at h2
    exact .inr ⟨h2.1.symm, h2.2.symm⟩
theorem no_ge {s : Stem} {n : Never} (h0 : ckStem s = 0) (h : studE (noS s n) = 0) : studE s = 0 ∧ (searchS s).cost ≤ (searchS (noS s n)).cost := by
  obtain ⟨g0, g1⟩ := studE_of h
  have hv := valid_of h0
  obtain ⟨p, _, hp, hpc⟩ := least_ex (valid_of g0) g1
  have ht := tree_less hv (a := noS s n) ⟨rfl, rfl⟩ (fun x y hx => no_more hx) hp
  obtain ⟨g2, g3⟩ := least_of hv ht
  have e : costP (noS s n) p (noS s n).copies.length = costP s p s.copies.length := SameC.costP (a := noS s n) (b := s) ⟨rfl, rfl⟩ p _
  exact ⟨studE_to h0 g2, by omega⟩
theorem no_same {s : Stem} {n : Never} {k : Nat} (h : studE s = 0) (hm : ckStem (noS s n) = 0) (hk : k < s.copies.length) (hy : n.dst = idAt s k) (hx : (pedL s).getD k 0 ≠ n.src) : studE (noS s n) = 0 ∧ (searchS (noS s n)).cost = (searchS s).cost ∧ pedE (noS s n) (pedL s) = 0 := by
  obtain ⟨h0, h1⟩ := studE_of h
  have hv := valid_of h0
  have hvm := valid_of hm
  have hf : firstP s ∈ (searchS s).least := by
    unfold firstP
    cases hl : (searchS s).least with
    | nil => exact absurd hl h1
    | cons a l => simp
  obtain ⟨ht, hc⟩ := (search_does hv).1.all _ hf
  have hid : ∀ j, j < s.copies.length → (pedL s).getD j 0 = idOf s (firstP s j) := fun j hj => map_at (f := fun k => idOf s (firstP s k)) hj
  have htm : TreeS (noS s n) (firstP s) := tree_more (a := noS s n) (b := s) hvm ⟨rfl, rfl⟩ (x := n.src) (y := n.dst) (fun u v hu => no_less hu) ht fun j hj h2 h3 => by
    have e : j = k := idAt_inj hv hj hk (by rw [h3.2, hy])
    subst e
    apply hx
    rw [hid j hj, ← h3.1]
    unfold idOf
    rw [decide_eq_false (by omega)]; rfl
  obtain ⟨g1, g2⟩ := least_of hvm htm
  have g3 := no_ge h0 (studE_to hm g1)
  have e : costP (noS s n) (firstP s) (noS s n).copies.length = costP s (firstP s) s.copies.length := SameC.costP (a := noS s n) (b := s) ⟨rfl, rfl⟩ _ _
  refine ⟨studE_to hm g1, by omega, ?_⟩
  have hp := tree_ped hvm htm (l := pedL s) (pedL_len s) (fun j hj => by rw [hid j hj]; rfl)
  unfold pedE
  rw [if_pos hm, if_pos hp.1]
end Go.Proofs.YtncpeobcgmkkbaaGreat
/- Walks: the law of one more Never. -/
set_option maxRecDepth 100000
namespace Go.Proofs.YtncpeobcgmkkbaaGreat
variable {r : Tr (List Value × TypeId)}
theorem studE_or' {s : Stem} (h : ckStem s = 0) : studE s = 0 ∨ studE s = 45 := by
  unfold studE
  rw [if_pos h]
  split
  · exact .inr rfl
  · exact .inl rfl
theorem mod_nat (a : Int) {m : Nat} (h : 0 < m) : ∃ i : Nat, modI a (Int.ofNat m) = Int.ofNat i ∧ i < m := by
  have := modI_bd a (m := Int.ofNat m) (by simp only [Int.ofNat_eq_natCast]; omega)
  refine ⟨(modI a (Int.ofNat m)).toNat, ?_, ?_⟩ <;> simp only [Int.ofNat_eq_natCast] at * <;> omega
theorem more_len (l : List Never) (n : Never) : (moreL l n).length ≤ l.length + 1 := by
  unfold moreL
  cases hasN l n with
  | true => simp only [cond_true]; omega
  | false => simp only [cond_false]; rw [insN_len l n (posN_le l n)]; exact Nat.le_refl _
section
variable {E : Env} {N : Nat} {st : List Nat} {rd : Option Nat} {Q : VPost}
/-- A made block is no longer watched. -/
theorem VSt.dropK (b : Nat) {ops : Array Oper} {bs : List Nat} {ks : List (Nat × Option Nat)} {i : Nat} {rest : List Oper} {K : List KI} {F : VK} {L : VS} (h : VSt.H E N st rd Q (.dops ops bs (ks.filter fun k => !Nat.beq k.1 b) rest i K F L)) : VSt.H E N st rd Q (.dops ops bs ks rest i K F L) := by
  intro T S Z j D r0 h1 h2 h3 h4 hD hi hks
  exact h T S Z j D r0 h1 h2 h3 h4 hD hi ⟨hks.1, hks.2.1, hks.2.2.1, fun k hk => hks.2.2.2 k (List.mem_filter.1 hk).1⟩
end
theorem no_ok {s : Stem} (hs : s.Ok) (hv : s.Valid) (n : Never) : (noS s n).Ok := ⟨hs.c, hs.w, by
  have h1 := more_len s.never n
  have h2 := hv.n
  show (moreL s.never n).length < _
  omega⟩
theorem words_imp {l : List Int} {f : Nat → List PV} (h : ∀ k, k < l.length → f k = [.int .i64 (l.getD k 0)]) : AImp (.p (.lst 3 false (0 + l.length) f)) (.p (eInts false l)) := by
  show AImp _ (.p (.lst 3 false l.length _))
  rw [Nat.zero_add]
  exact AImp.lst h
theorem ck_id {c : Copy} {id : Int} {b : Bool} (h : ckCopy c = 0) (h1 : 1 ≤ id) (h2 : id ≤ 99) : ckCopy ⟨id, c.words, b⟩ = 0 := by
  unfold ckCopy at h ⊢
  split at h
  · cases h
  · rename_i h3
    rw [if_neg]
    intro h4
    apply h3
    rw [Bool.or_eq_true] at h4 ⊢
    rcases h4 with h5 | h5
    · rw [show wth id 1 99 = true from wth_iff.2 ⟨h1, h2⟩] at h5
      cases h5
    · exact .inr h5
theorem with_plus {s : Stem} {c : Copy} (h0 : ckStem s = 0) (hc : ckCopy c = 0) (hno : ¬ 0 ≤ place s c.id) (hw : c.words.length = (s.copies.getD 0 default).words.length) (hlt : s.copies.length < 7) : withE s c = 0 ∧ withS s c = plusS s c := by
  have e : withE s c = 0 := by
    unfold withE
    rw [if_pos h0, if_neg, if_neg (by omega)]
    rw [hc, hw, decide_eq_false hno]
    simp
  exact ⟨e, by unfold withS; rw [if_pos e]; rfl⟩
set_option maxHeartbeats 4000000 in
theorem stemLess_law {s : Stem} {n0 n1 : Int} (hs : s.Ok) (hf : s.Flags) : VP (sE r) 5 [.agg ((eStem s).map .p), .agg [iv n0, iv n1]] (bv true) := by
  have hfe := Fewest_ok (r := r) hs
  refine VP.of (fn := Tryz.f5) tb_ok rfl (by kernel_rfl) rfl rfl rfl ?_
  refine VSt.go tb_ok false [] 200 rfl (by repeat (first | exact AllP.n | refine AllP.c (by first | assumption | rfl | omega | exact Nat.le_refl _ | (show 0 < _; omega) | (show 1 < _; omega) | (show 2 < _; omega) | (show 3 < _; omega) | (intro _ _; rfl) | (intro q hq; match q, hq with | 0, _ => rfl) | (unfold inR; (try simp only [Int.ofNat_eq_natCast]); omega)) ?_)) ?_
  first | refine VSt.pc rfl rfl rfl rfl rfl rfl rfl rfl ((rCheck_ok s hs)) ?_ | refine VSt.pcD rfl rfl rfl rfl rfl rfl rfl rfl ((rCheck_ok s hs)) ?_
  refine VSt.go tb_ok false [] 200 rfl (by repeat (first | exact AllP.n | refine AllP.c (by first | assumption | rfl | omega | exact Nat.le_refl _ | (show 0 < _; omega) | (show 1 < _; omega) | (show 2 < _; omega) | (show 3 < _; omega) | (intro _ _; rfl) | (intro q hq; match q, hq with | 0, _ => rfl) | (unfold inR; (try simp only [Int.ofNat_eq_natCast]); omega)) ?_)) ?_
  first | refine VSt.splitO 24 rfl (fun h1 => ?_) (fun h1 => ?_) | refine VSt.splitD 24 rfl (fun h1 => ?_) (fun h1 => ?_)
  · refine VSt.go tb_ok false [] 200 rfl (by repeat (first | exact AllP.n | refine AllP.c (by first | assumption | rfl | omega | exact Nat.le_refl _ | (show 0 < _; omega) | (show 1 < _; omega) | (show 2 < _; omega) | (show 3 < _; omega) | (intro _ _; rfl) | (intro q hq; match q, hq with | 0, _ => rfl) | (unfold inR; (try simp only [Int.ofNat_eq_natCast]); omega)) ?_)) ?_
    first | refine VSt.pc rfl rfl rfl rfl rfl rfl rfl rfl ((VP.hook rfl)) ?_ | refine VSt.pcD rfl rfl rfl rfl rfl rfl rfl rfl ((VP.hook rfl)) ?_
    refine VSt.go tb_ok false [] 200 rfl (by repeat (first | exact AllP.n | refine AllP.c (by first | assumption | rfl | omega | exact Nat.le_refl _ | (show 0 < _; omega) | (show 1 < _; omega) | (show 2 < _; omega) | (show 3 < _; omega) | (intro _ _; rfl) | (intro q hq; match q, hq with | 0, _ => rfl) | (unfold inR; (try simp only [Int.ofNat_eq_natCast]); omega)) ?_)) ?_
    exact EndsP.mk rfl rfl rfl rfl
  have h1 : (!(ckStem s == 0)) = false := h1
  have h0 : ckStem s = 0 := by simpa using h1
  have hv := valid_of h0
  have hn : s.copies.length ≤ 7 := hv.c
  refine VSt.go tb_ok false [] 200 rfl (by repeat (first | exact AllP.n | refine AllP.c (by first | assumption | rfl | omega | exact Nat.le_refl _ | (show 0 < _; omega) | (show 1 < _; omega) | (show 2 < _; omega) | (show 3 < _; omega) | (intro _ _; rfl) | (intro q hq; match q, hq with | 0, _ => rfl) | (unfold inR; (try simp only [Int.ofNat_eq_natCast]); omega)) ?_)) ?_
  refine VSt.cond rfl (fun h2 => ?_) (fun h2 => ?_)
  · refine VSt.go tb_ok false [] 200 rfl (by repeat (first | exact AllP.n | refine AllP.c (by first | assumption | rfl | omega | exact Nat.le_refl _ | (show 0 < _; omega) | (show 1 < _; omega) | (show 2 < _; omega) | (show 3 < _; omega) | (intro _ _; rfl) | (intro q hq; match q, hq with | 0, _ => rfl) | (unfold inR; (try simp only [Int.ofNat_eq_natCast]); omega)) ?_)) ?_
    first | refine VSt.pc rfl rfl rfl rfl rfl rfl rfl rfl ((VP.hook rfl)) ?_ | refine VSt.pcD rfl rfl rfl rfl rfl rfl rfl rfl ((VP.hook rfl)) ?_
    refine VSt.go tb_ok false [] 200 rfl (by repeat (first | exact AllP.n | refine AllP.c (by first | assumption | rfl | omega | exact Nat.le_refl _ | (show 0 < _; omega) | (show 1 < _; omega) | (show 2 < _; omega) | (show 3 < _; omega) | (intro _ _; rfl) | (intro q hq; match q, hq with | 0, _ => rfl) | (unfold inR; (try simp only [Int.ofNat_eq_natCast]); omega)) ?_)) ?_
    exact EndsP.mk rfl rfl rfl rfl
  have h2 : 2 ≤ s.copies.length := by have h3 := of_decide_eq_false h2; simp only [Int.ofNat_eq_natCast] at h3; omega
  refine VSt.go tb_ok false [] 200 rfl (by repeat (first | exact AllP.n | refine AllP.c (by first | assumption | rfl | omega | exact Nat.le_refl _ | (show 0 < _; omega) | (show 1 < _; omega) | (show 2 < _; omega) | (show 3 < _; omega) | (intro _ _; rfl) | (intro q hq; match q, hq with | 0, _ => rfl) | (unfold inR; (try simp only [Int.ofNat_eq_natCast]); omega)) ?_)) ?_
  have hpd := Pedigree_ok (r := r) hs
  by_cases hE : studE s = 0
  · have hpr : pedR s = pedL s := if_pos hE
    rw [if_pos hE, hE] at hfe
    rw [hE, hpr] at hpd
    first | refine VSt.pc rfl rfl rfl rfl rfl rfl rfl rfl (hfe) ?_ | refine VSt.pcD rfl rfl rfl rfl rfl rfl rfl rfl (hfe) ?_
    refine VSt.go tb_ok false [] 200 rfl (by repeat (first | exact AllP.n | refine AllP.c (by first | assumption | rfl | omega | exact Nat.le_refl _ | (show 0 < _; omega) | (show 1 < _; omega) | (show 2 < _; omega) | (show 3 < _; omega) | (intro _ _; rfl) | (intro q hq; match q, hq with | 0, _ => rfl) | (unfold inR; (try simp only [Int.ofNat_eq_natCast]); omega)) ?_)) ?_
    first | refine VSt.pc rfl rfl rfl rfl rfl rfl rfl rfl (hpd) ?_ | refine VSt.pcD rfl rfl rfl rfl rfl rfl rfl rfl (hpd) ?_
    refine VSt.go tb_ok false [] 200 rfl (by repeat (first | exact AllP.n | refine AllP.c (by first | assumption | rfl | omega | exact Nat.le_refl _ | (show 0 < _; omega) | (show 1 < _; omega) | (show 2 < _; omega) | (show 3 < _; omega) | (intro _ _; rfl) | (intro q hq; match q, hq with | 0, _ => rfl) | (unfold inR; (try simp only [Int.ofNat_eq_natCast]); omega)) ?_)) ?_
    first | refine VSt.splitO 44 rfl (fun g1 => ?_) (fun g1 => ?_) | refine VSt.splitD 44 rfl (fun g1 => ?_) (fun g1 => ?_)
    · exact absurd g1 (by decide)
    refine VSt.go tb_ok false [] 200 rfl (by repeat (first | exact AllP.n | refine AllP.c (by first | assumption | rfl | omega | exact Nat.le_refl _ | (show 0 < _; omega) | (show 1 < _; omega) | (show 2 < _; omega) | (show 3 < _; omega) | (intro _ _; rfl) | (intro q hq; match q, hq with | 0, _ => rfl) | (unfold inR; (try simp only [Int.ofNat_eq_natCast]); omega)) ?_)) ?_
    first | refine VSt.splitO 47 rfl (fun g2 => ?_) (fun g2 => ?_) | refine VSt.splitD 47 rfl (fun g2 => ?_) (fun g2 => ?_)
    rotate_left
    · exact absurd g2 (by decide)
    refine VSt.go tb_ok false [] 200 rfl (by repeat (first | exact AllP.n | refine AllP.c (by first | assumption | rfl | omega | exact Nat.le_refl _ | (show 0 < _; omega) | (show 1 < _; omega) | (show 2 < _; omega) | (show 3 < _; omega) | (intro _ _; rfl) | (intro q hq; match q, hq with | 0, _ => rfl) | (unfold inR; (try simp only [Int.ofNat_eq_natCast]); omega)) ?_)) ?_
    refine VSt.cond rfl (fun h3 => ?_) (fun _ => ?_)
    · have h3 : (!(Int.ofNat (pedL s).length == Int.ofNat s.copies.length)) = true := h3
      rw [pedL_len, beq_self_eq_true] at h3
      exact absurd h3 (by decide)
    first | refine VSt.viewC (Vw.kp [2, 3, 5, 6, 7] [(0, 0), (1, 1)] rfl) ?_ | refine VSt.viewO (Vw.kp [2, 3, 5, 6, 7] [(0, 0), (1, 1)] rfl) ?_ | refine VSt.viewD (Vw.kp [2, 3, 5, 6, 7] [(0, 0), (1, 1)] rfl) ?_
    refine Exists.elim (mod_nat n0 (m := s.copies.length) (by omega)) fun i hi => ?_
    refine Exists.elim (mod_nat n1 (m := s.copies.length - 1) (by omega)) fun j hj => ?_
    refine Exists.elim (mod_nat (Int.ofNat i + 1 + Int.ofNat j) (m := s.copies.length) (by omega)) fun k hk => ?_
    have hm1 := mod_ok (r := r) n0 (m := Int.ofNat s.copies.length) (by simp only [Int.ofNat_eq_natCast]; omega) (by simp only [Int.ofNat_eq_natCast]; omega)
    have hm2 := mod_ok (r := r) n1 (m := Int.ofNat (s.copies.length - 1)) (by simp only [Int.ofNat_eq_natCast]; omega) (by simp only [Int.ofNat_eq_natCast]; omega)
    have hm3 := mod_ok (r := r) (Int.ofNat i + 1 + Int.ofNat j) (m := Int.ofNat s.copies.length) (by simp only [Int.ofNat_eq_natCast]; omega) (by simp only [Int.ofNat_eq_natCast]; omega)
    rw [hi.1] at hm1
    rw [hj.1, show Int.ofNat (s.copies.length - 1) = Int.ofNat s.copies.length - 1 by simp only [Int.ofNat_eq_natCast]; omega] at hm2
    rw [hk.1] at hm3
    have hi := hi.2
    have hj := hj.2
    have hk := hk.2
    refine VSt.go tb_ok false [] 200 rfl (by repeat (first | exact AllP.n | refine AllP.c (by first | assumption | rfl | omega | exact Nat.le_refl _ | (show 0 < _; omega) | (show 1 < _; omega) | (show 2 < _; omega) | (show 3 < _; omega) | (intro _ _; rfl) | (intro q hq; match q, hq with | 0, _ => rfl) | (unfold inR; (try simp only [Int.ofNat_eq_natCast]); omega)) ?_)) ?_
    first | refine VSt.pc rfl rfl rfl rfl rfl rfl rfl rfl (hm1) ?_ | refine VSt.pcD rfl rfl rfl rfl rfl rfl rfl rfl (hm1) ?_
    refine VSt.go tb_ok false [] 200 rfl (by repeat (first | exact AllP.n | refine AllP.c (by first | assumption | rfl | omega | exact Nat.le_refl _ | (show 0 < _; omega) | (show 1 < _; omega) | (show 2 < _; omega) | (show 3 < _; omega) | (intro _ _; rfl) | (intro q hq; match q, hq with | 0, _ => rfl) | (unfold inR; (try simp only [Int.ofNat_eq_natCast]); omega)) ?_)) ?_
    first | refine VSt.pc rfl rfl rfl rfl rfl rfl rfl rfl (hm2) ?_ | refine VSt.pcD rfl rfl rfl rfl rfl rfl rfl rfl (hm2) ?_
    refine VSt.go tb_ok false [] 200 rfl (by repeat (first | exact AllP.n | refine AllP.c (by first | assumption | rfl | omega | exact Nat.le_refl _ | (show 0 < _; omega) | (show 1 < _; omega) | (show 2 < _; omega) | (show 3 < _; omega) | (intro _ _; rfl) | (intro q hq; match q, hq with | 0, _ => rfl) | (unfold inR; (try simp only [Int.ofNat_eq_natCast]); omega)) ?_)) ?_
    first | refine VSt.pc rfl rfl rfl rfl rfl rfl rfl rfl (hm3) ?_ | refine VSt.pcD rfl rfl rfl rfl rfl rfl rfl rfl (hm3) ?_
    refine VSt.go tb_ok false [] 200 rfl (by repeat (first | exact AllP.n | refine AllP.c (by first | assumption | rfl | omega | exact Nat.le_refl _ | (show 0 < _; omega) | (show 1 < _; omega) | (show 2 < _; omega) | (show 3 < _; omega) | (intro _ _; rfl) | (intro q hq; match q, hq with | 0, _ => rfl) | (unfold inR; (try simp only [Int.ofNat_eq_natCast]); omega)) ?_)) ?_
    first | refine VSt.pc rfl rfl rfl rfl rfl rfl rfl rfl ((more_ok (r := r) (b := s.nn) (l := s.never) (n := ⟨idAt s i, idAt s k⟩) (by have := hv.n; omega))) ?_ | refine VSt.pcD rfl rfl rfl rfl rfl rfl rfl rfl ((more_ok (r := r) (b := s.nn) (l := s.never) (n := ⟨idAt s i, idAt s k⟩) (by have := hv.n; omega))) ?_
    have hsm := no_ok hs hv ⟨idAt s i, idAt s k⟩
    have hge := no_ge (n := ⟨idAt s i, idAt s k⟩) h0
    have hsame := no_same (n := ⟨idAt s i, idAt s k⟩) (k := k) hE
    have hpk : k < (pedL s).length := by rw [pedL_len]; exact hk
    have hpl : (pedL s).length < 9223372036854775808 := by rw [pedL_len]; omega
    have hfm := Fewest_ok (r := r) hsm
    refine VSt.go tb_ok false [] 200 rfl (by repeat (first | exact AllP.n | refine AllP.c (by first | assumption | rfl | omega | exact Nat.le_refl _ | (show 0 < _; omega) | (show 1 < _; omega) | (show 2 < _; omega) | (show 3 < _; omega) | (intro _ _; rfl) | (intro q hq; match q, hq with | 0, _ => rfl) | (unfold inR; (try simp only [Int.ofNat_eq_natCast]); omega)) ?_)) ?_
    first | refine VSt.pc rfl rfl rfl rfl rfl rfl rfl rfl ((check_ok (noS s ⟨idAt s i, idAt s k⟩) hsm)) ?_ | refine VSt.pcD rfl rfl rfl rfl rfl rfl rfl rfl ((check_ok (noS s ⟨idAt s i, idAt s k⟩) hsm)) ?_
    refine VSt.go tb_ok false [] 200 rfl (by repeat (first | exact AllP.n | refine AllP.c (by first | assumption | rfl | omega | exact Nat.le_refl _ | (show 0 < _; omega) | (show 1 < _; omega) | (show 2 < _; omega) | (show 3 < _; omega) | (intro _ _; rfl) | (intro q hq; match q, hq with | 0, _ => rfl) | (unfold inR; (try simp only [Int.ofNat_eq_natCast]); omega)) ?_)) ?_
    refine VSt.cond rfl (fun hM => ?_) (fun hM => ?_)
    · have hM : ckStem (noS s ⟨idAt s i, idAt s k⟩) = 0 := by have h3 : (ckStem (noS s ⟨idAt s i, idAt s k⟩) == 0) = true := hM; simpa using h3
      have hsame := fun g => hsame hM hk rfl g
      refine VSt.go tb_ok false [] 200 rfl (by repeat (first | exact AllP.n | refine AllP.c (by first | assumption | rfl | omega | exact Nat.le_refl _ | (show 0 < _; omega) | (show 1 < _; omega) | (show 2 < _; omega) | (show 3 < _; omega) | (intro _ _; rfl) | (intro q hq; match q, hq with | 0, _ => rfl) | (unfold inR; (try simp only [Int.ofNat_eq_natCast]); omega)) ?_)) ?_
      by_cases hG : studE (noS s ⟨idAt s i, idAt s k⟩) = 0
      · have hge := hge hG
        rw [if_pos hG, hG] at hfm
        first | refine VSt.pc rfl rfl rfl rfl rfl rfl rfl rfl (hfm) ?_ | refine VSt.pcD rfl rfl rfl rfl rfl rfl rfl rfl (hfm) ?_
        refine VSt.go tb_ok false [] 200 rfl (by repeat (first | exact AllP.n | refine AllP.c (by first | assumption | rfl | omega | exact Nat.le_refl _ | (show 0 < _; omega) | (show 1 < _; omega) | (show 2 < _; omega) | (show 3 < _; omega) | (intro _ _; rfl) | (intro q hq; match q, hq with | 0, _ => rfl) | (unfold inR; (try simp only [Int.ofNat_eq_natCast]); omega)) ?_)) ?_
        first | refine VSt.splitO 104 rfl (fun a1 => ?_) (fun a1 => ?_) | refine VSt.splitD 104 rfl (fun a1 => ?_) (fun a1 => ?_)
        rotate_left
        · exact absurd a1 (by decide)
        refine VSt.go tb_ok false [] 200 rfl (by repeat (first | exact AllP.n | refine AllP.c (by first | assumption | rfl | omega | exact Nat.le_refl _ | (show 0 < _; omega) | (show 1 < _; omega) | (show 2 < _; omega) | (show 3 < _; omega) | (intro _ _; rfl) | (intro q hq; match q, hq with | 0, _ => rfl) | (unfold inR; (try simp only [Int.ofNat_eq_natCast]); omega)) ?_)) ?_
        first | refine VSt.splitO 107 rfl (fun a2 => ?_) (fun a2 => ?_) | refine VSt.splitD 107 rfl (fun a2 => ?_) (fun a2 => ?_)
        · exact absurd a2 (by decide)
        refine VSt.go tb_ok false [] 200 rfl (by repeat (first | exact AllP.n | refine AllP.c (by first | assumption | rfl | omega | exact Nat.le_refl _ | (show 0 < _; omega) | (show 1 < _; omega) | (show 2 < _; omega) | (show 3 < _; omega) | (intro _ _; rfl) | (intro q hq; match q, hq with | 0, _ => rfl) | (unfold inR; (try simp only [Int.ofNat_eq_natCast]); omega)) ?_)) ?_
        first | refine VSt.splitO 113 rfl (fun a3 => ?_) (fun a3 => ?_) | refine VSt.splitD 113 rfl (fun a3 => ?_) (fun a3 => ?_)
        · have a4 := of_decide_eq_true a3
          exact absurd hge.2 (by omega)
        refine VSt.go tb_ok false [] 200 rfl (by repeat (first | exact AllP.n | refine AllP.c (by first | assumption | rfl | omega | exact Nat.le_refl _ | (show 0 < _; omega) | (show 1 < _; omega) | (show 2 < _; omega) | (show 3 < _; omega) | (intro _ _; rfl) | (intro q hq; match q, hq with | 0, _ => rfl) | (unfold inR; (try simp only [Int.ofNat_eq_natCast]); omega)) ?_)) ?_
        first | refine VSt.splitO 116 rfl (fun a4 => ?_) (fun a4 => ?_) | refine VSt.splitD 116 rfl (fun a4 => ?_) (fun a4 => ?_)
        · exact absurd a4 (by decide)
        refine VSt.go tb_ok false [] 200 rfl (by repeat (first | exact AllP.n | refine AllP.c (by first | assumption | rfl | omega | exact Nat.le_refl _ | (show 0 < _; omega) | (show 1 < _; omega) | (show 2 < _; omega) | (show 3 < _; omega) | (intro _ _; rfl) | (intro q hq; match q, hq with | 0, _ => rfl) | (unfold inR; (try simp only [Int.ofNat_eq_natCast]); omega)) ?_)) ?_
        first | refine VSt.splitO 123 rfl (fun a5 => ?_) (fun a5 => ?_) | refine VSt.splitD 123 rfl (fun a5 => ?_) (fun a5 => ?_)
        rotate_left
        · exact absurd a5 (by decide)
        refine VSt.go tb_ok false [] 200 rfl (by repeat (first | exact AllP.n | refine AllP.c (by first | assumption | rfl | omega | exact Nat.le_refl _ | (show 0 < _; omega) | (show 1 < _; omega) | (show 2 < _; omega) | (show 3 < _; omega) | (intro _ _; rfl) | (intro q hq; match q, hq with | 0, _ => rfl) | (unfold inR; (try simp only [Int.ofNat_eq_natCast]); omega)) ?_)) ?_
        first | refine VSt.splitO 136 rfl (fun hP => ?_) (fun hP => ?_) | refine VSt.splitD 136 rfl (fun hP => ?_) (fun hP => ?_)
        · have hP : (!((pedL s).getD k 0 == idAt s i)) = true := hP
          have hsame := hsame (fun e => by have e : (pedL s).getD k 0 = idAt s i := e; rw [e, beq_self_eq_true] at hP; exact absurd hP (by decide))
          refine VSt.go tb_ok false [] 200 rfl (by repeat (first | exact AllP.n | refine AllP.c (by first | assumption | rfl | omega | exact Nat.le_refl _ | (show 0 < _; omega) | (show 1 < _; omega) | (show 2 < _; omega) | (show 3 < _; omega) | (intro _ _; rfl) | (intro q hq; match q, hq with | 0, _ => rfl) | (unfold inR; (try simp only [Int.ofNat_eq_natCast]); omega)) ?_)) ?_
          first | refine VSt.splitO 139 rfl (fun a6 => ?_) (fun a6 => ?_) | refine VSt.splitD 139 rfl (fun a6 => ?_) (fun a6 => ?_)
          · exact absurd a6 (by decide)
          refine VSt.go tb_ok false [] 200 rfl (by repeat (first | exact AllP.n | refine AllP.c (by first | assumption | rfl | omega | exact Nat.le_refl _ | (show 0 < _; omega) | (show 1 < _; omega) | (show 2 < _; omega) | (show 3 < _; omega) | (intro _ _; rfl) | (intro q hq; match q, hq with | 0, _ => rfl) | (unfold inR; (try simp only [Int.ofNat_eq_natCast]); omega)) ?_)) ?_
          first | refine VSt.splitO 144 rfl (fun a7 => ?_) (fun a7 => ?_) | refine VSt.splitD 144 rfl (fun a7 => ?_) (fun a7 => ?_)
          · have a7 : (!((searchS (noS s ⟨idAt s i, idAt s k⟩)).cost == (searchS s).cost)) = true := a7
            rw [hsame.2.1, beq_self_eq_true] at a7
            exact absurd a7 (by decide)
          refine VSt.go tb_ok false [] 200 rfl (by repeat (first | exact AllP.n | refine AllP.c (by first | assumption | rfl | omega | exact Nat.le_refl _ | (show 0 < _; omega) | (show 1 < _; omega) | (show 2 < _; omega) | (show 3 < _; omega) | (intro _ _; rfl) | (intro q hq; match q, hq with | 0, _ => rfl) | (unfold inR; (try simp only [Int.ofNat_eq_natCast]); omega)) ?_)) ?_
          first | refine VSt.pc rfl rfl rfl rfl rfl rfl rfl rfl ((CheckPed_ok (r := r) (b := !(0 : Int) == 0) hsm hpl)) ?_ | refine VSt.pcD rfl rfl rfl rfl rfl rfl rfl rfl ((CheckPed_ok (r := r) (b := !(0 : Int) == 0) hsm hpl)) ?_
          refine VSt.go tb_ok false [] 200 rfl (by repeat (first | exact AllP.n | refine AllP.c (by first | assumption | rfl | omega | exact Nat.le_refl _ | (show 0 < _; omega) | (show 1 < _; omega) | (show 2 < _; omega) | (show 3 < _; omega) | (intro _ _; rfl) | (intro q hq; match q, hq with | 0, _ => rfl) | (unfold inR; (try simp only [Int.ofNat_eq_natCast]); omega)) ?_)) ?_
          refine VSt.cond rfl (fun a8 => ?_) (fun _ => ?_)
          · have a8 : (!(pedE (noS s ⟨idAt s i, idAt s k⟩) (pedL s) == 0)) = true := a8
            rw [hsame.2.2] at a8
            exact absurd a8 (by decide)
          refine VSt.go tb_ok false [] 200 rfl (by repeat (first | exact AllP.n | refine AllP.c (by first | assumption | rfl | omega | exact Nat.le_refl _ | (show 0 < _; omega) | (show 1 < _; omega) | (show 2 < _; omega) | (show 3 < _; omega) | (intro _ _; rfl) | (intro q hq; match q, hq with | 0, _ => rfl) | (unfold inR; (try simp only [Int.ofNat_eq_natCast]); omega)) ?_)) ?_
          first | refine VSt.splitO 155 rfl (fun q1 => ?_) (fun q1 => ?_) | refine VSt.splitD 155 rfl (fun q1 => ?_) (fun q1 => ?_)
          · refine VSt.go tb_ok false [] 200 rfl (by repeat (first | exact AllP.n | refine AllP.c (by first | assumption | rfl | omega | exact Nat.le_refl _ | (show 0 < _; omega) | (show 1 < _; omega) | (show 2 < _; omega) | (show 3 < _; omega) | (intro _ _; rfl) | (intro q hq; match q, hq with | 0, _ => rfl) | (unfold inR; (try simp only [Int.ofNat_eq_natCast]); omega)) ?_)) ?_
            first | refine VSt.pc rfl rfl rfl rfl rfl rfl rfl rfl ((VP.hook rfl)) ?_ | refine VSt.pcD rfl rfl rfl rfl rfl rfl rfl rfl ((VP.hook rfl)) ?_
            refine VSt.go tb_ok false [] 200 rfl (by repeat (first | exact AllP.n | refine AllP.c (by first | assumption | rfl | omega | exact Nat.le_refl _ | (show 0 < _; omega) | (show 1 < _; omega) | (show 2 < _; omega) | (show 3 < _; omega) | (intro _ _; rfl) | (intro q hq; match q, hq with | 0, _ => rfl) | (unfold inR; (try simp only [Int.ofNat_eq_natCast]); omega)) ?_)) ?_
            exact EndsP.mk rfl rfl rfl rfl
          have hnv : s.never = [] := by
            have q3 := of_decide_eq_false q1
            simp only [Int.ofNat_eq_natCast] at q3
            exact List.length_eq_zero_iff.1 (by omega)
          refine VSt.go tb_ok false [] 200 rfl (by repeat (first | exact AllP.n | refine AllP.c (by first | assumption | rfl | omega | exact Nat.le_refl _ | (show 0 < _; omega) | (show 1 < _; omega) | (show 2 < _; omega) | (show 3 < _; omega) | (intro _ _; rfl) | (intro q hq; match q, hq with | 0, _ => rfl) | (unfold inR; (try simp only [Int.ofNat_eq_natCast]); omega)) ?_)) ?_
          first | refine VSt.splitO 161 rfl (fun q2 => ?_) (fun q2 => ?_) | refine VSt.splitD 161 rfl (fun q2 => ?_) (fun q2 => ?_)
          · refine VSt.go tb_ok false [] 200 rfl (by repeat (first | exact AllP.n | refine AllP.c (by first | assumption | rfl | omega | exact Nat.le_refl _ | (show 0 < _; omega) | (show 1 < _; omega) | (show 2 < _; omega) | (show 3 < _; omega) | (intro _ _; rfl) | (intro q hq; match q, hq with | 0, _ => rfl) | (unfold inR; (try simp only [Int.ofNat_eq_natCast]); omega)) ?_)) ?_
            first | refine VSt.pc rfl rfl rfl rfl rfl rfl rfl rfl ((VP.hook rfl)) ?_ | refine VSt.pcD rfl rfl rfl rfl rfl rfl rfl rfl ((VP.hook rfl)) ?_
            refine VSt.go tb_ok false [] 200 rfl (by repeat (first | exact AllP.n | refine AllP.c (by first | assumption | rfl | omega | exact Nat.le_refl _ | (show 0 < _; omega) | (show 1 < _; omega) | (show 2 < _; omega) | (show 3 < _; omega) | (intro _ _; rfl) | (intro q hq; match q, hq with | 0, _ => rfl) | (unfold inR; (try simp only [Int.ofNat_eq_natCast]); omega)) ?_)) ?_
            exact EndsP.mk rfl rfl rfl rfl
          have h7 : s.copies.length < 7 := by
            have q3 : (Int.ofNat s.copies.length == 7) = false := q2
            have q4 : ¬ Int.ofNat s.copies.length = 7 := by simpa using q3
            simp only [Int.ofNat_eq_natCast] at q4
            omega
          refine VSt.go tb_ok false [] 200 rfl (by repeat (first | exact AllP.n | refine AllP.c (by first | assumption | rfl | omega | exact Nat.le_refl _ | (show 0 < _; omega) | (show 1 < _; omega) | (show 2 < _; omega) | (show 3 < _; omega) | (intro _ _; rfl) | (intro q hq; match q, hq with | 0, _ => rfl) | (unfold inR; (try simp only [Int.ofNat_eq_natCast]); omega)) ?_)) ?_
          refine VSt.cond rfl (fun q3 => absurd q3 (by decide)) (fun _ => ?_)
          refine VSt.go tb_ok false [] 200 rfl (by repeat (first | exact AllP.n | refine AllP.c (by first | assumption | rfl | omega | exact Nat.le_refl _ | (show 0 < _; omega) | (show 1 < _; omega) | (show 2 < _; omega) | (show 3 < _; omega) | (intro _ _; rfl) | (intro q hq; match q, hq with | 0, _ => rfl) | (unfold inR; (try simp only [Int.ofNat_eq_natCast]); omega)) ?_)) ?_
          first | refine VSt.viewC (Vw.kp [2, 5, 9, 14, 167, 168, 169] [(0, 0)] rfl) ?_ | refine VSt.viewO (Vw.kp [2, 5, 9, 14, 167, 168, 169] [(0, 0)] rfl) ?_ | refine VSt.viewD (Vw.kp [2, 5, 9, 14, 167, 168, 169] [(0, 0)] rfl) ?_
          refine VSt.viewC (Vw.freezeC 0 (eStem s) rfl rfl) ?_
          refine VSt.rangeT tb_ok s.copies.length (by omega) [2, 5, 9, 167] (fun m => [(14, iv (mexS s m))]) (fun _ => []) (fun _ => True) rfl rfl rfl (fun _ => rfl) rfl rfl (u0_cons rfl (AImp.refl _) u0_nil) trivial trivial (fun m hm _ => ?_) (fun _ => ?_)
          · have hm1 := (mex_inv hv m (by omega)).1
            have hm2 := (mex_inv hv m (by omega)).2.1
            refine VSt.go tb_ok false [] 200 rfl (by repeat (first | exact AllP.n | refine AllP.c (by first | assumption | rfl | omega | exact Nat.le_refl _ | (show 0 < _; omega) | (show 1 < _; omega) | (show 2 < _; omega) | (show 3 < _; omega) | (intro _ _; rfl) | (intro q hq; match q, hq with | 0, _ => rfl) | (unfold inR; (try simp only [Int.ofNat_eq_natCast]); omega)) ?_)) ?_
            refine VSt.cond rfl (fun q4 => ?_) (fun q4 => ?_)
            · have q4 : ((s.copies.getD m default).id == mexS s m) = true := q4
              have e : mexS s (m + 1) = mexS s m + 1 := by
                show (bif (s.copies.getD m default).id == mexS s m then _ else _) = _
                rw [q4]; rfl
              refine VSt.go tb_ok false [] 200 rfl (by repeat (first | exact AllP.n | refine AllP.c (by first | assumption | rfl | omega | exact Nat.le_refl _ | (show 0 < _; omega) | (show 1 < _; omega) | (show 2 < _; omega) | (show 3 < _; omega) | (intro _ _; rfl) | (intro q hq; match q, hq with | 0, _ => rfl) | (unfold inR; (try simp only [Int.ofNat_eq_natCast]); omega)) ?_)) ?_
              refine ⟨?_, trivial⟩
              dsimp only
              rw [e]
              first | (refine Vw.drop (by repeat (first | exact wf_nil | refine wf_back rfl rfl rfl ?_ | refine wf_cons rfl (by assumption) (ren_only _ (by assumption)) ?_))) | refine Wk.vw (ps := []) ⟨rfl, rfl, (by repeat (first | exact wf_nil | refine wf_back rfl rfl rfl ?_)), _, rfl, (trivial)⟩
            · have q4 : ((s.copies.getD m default).id == mexS s m) = false := q4
              have e : mexS s (m + 1) = mexS s m := by
                show (bif (s.copies.getD m default).id == mexS s m then _ else _) = _
                rw [q4]; rfl
              refine VSt.go tb_ok false [] 200 rfl (by repeat (first | exact AllP.n | refine AllP.c (by first | assumption | rfl | omega | exact Nat.le_refl _ | (show 0 < _; omega) | (show 1 < _; omega) | (show 2 < _; omega) | (show 3 < _; omega) | (intro _ _; rfl) | (intro q hq; match q, hq with | 0, _ => rfl) | (unfold inR; (try simp only [Int.ofNat_eq_natCast]); omega)) ?_)) ?_
              refine ⟨?_, trivial⟩
              dsimp only
              rw [e]
              first | (refine Vw.drop (by repeat (first | exact wf_nil | refine wf_back rfl rfl rfl ?_ | refine wf_cons rfl (by assumption) (ren_only _ (by assumption)) ?_))) | refine Wk.vw (ps := []) ⟨rfl, rfl, (by repeat (first | exact wf_nil | refine wf_back rfl rfl rfl ?_)), _, rfl, (trivial)⟩
          · have hwl := (ckCopy_of (hv.copy hi)).2.1
            have hmi := mex_inv hv s.copies.length (Nat.le_refl _)
            have hck : ckCopy ⟨mexS s s.copies.length, (s.copies.getD i default).words, false⟩ = 0 := ck_id (hv.copy hi) hmi.1 (by have := hmi.2.1; omega)
            have hwp := with_plus h0 hck (mex_place hv) (hv.words hi) h7
            have hpk2 := plus_ck h0 hck (mex_place hv) (by omega) (hv.words hi) h7 hnv
            have hpc := plus_cost (i := i) hE hpk2 hi rfl hnv
            have hwi := pWith_ok (r := r) s ⟨mexS s s.copies.length, (s.copies.getD i default).words, false⟩ hs hf (fun e => Bool.noConfusion e) (by show (s.copies.getD i default).words.length < _; omega)
            have hso := withS_ok (c := ⟨mexS s s.copies.length, (s.copies.getD i default).words, false⟩) hs (by show (s.copies.getD i default).words.length < _; omega)
            rw [hwp.1, hwp.2] at hwi
            rw [hwp.2] at hso
            have hfd := Fewest_ok (r := r) hso
            rw [if_pos hpc.1, hpc.1, hpc.2] at hfd
            refine VSt.go tb_ok false [191] 200 rfl (by repeat (first | exact AllP.n | refine AllP.c (by first | assumption | rfl | omega | exact Nat.le_refl _ | (show 0 < _; omega) | (show 1 < _; omega) | (show 2 < _; omega) | (show 3 < _; omega) | (intro _ _; rfl) | (intro q hq; match q, hq with | 0, _ => rfl) | (unfold inR; (try simp only [Int.ofNat_eq_natCast]); omega)) ?_)) ?_
            refine VSt.dropK 1 ?_
            refine VSt.viewD (Vw.freeze 1 rfl rfl ⟨Nat.le_of_eq (Nat.zero_add _), Nat.le_refl _, rfl⟩) ?_
            first | refine VSt.putO 190 (.p (eInts false (s.copies.getD i default).words)) rfl (words_imp fun k hk => by rw [Nat.zero_add]; rfl) ?_ | refine VSt.putD 190 (.p (eInts false (s.copies.getD i default).words)) rfl (words_imp fun k hk => by rw [Nat.zero_add]; rfl) ?_ | refine VSt.putC 190 (.p (eInts false (s.copies.getD i default).words)) rfl (words_imp fun k hk => by rw [Nat.zero_add]; rfl) ?_
            refine VSt.go tb_ok false [] 200 rfl (by repeat (first | exact AllP.n | refine AllP.c (by first | assumption | rfl | omega | exact Nat.le_refl _ | (show 0 < _; omega) | (show 1 < _; omega) | (show 2 < _; omega) | (show 3 < _; omega) | (intro _ _; rfl) | (intro q hq; match q, hq with | 0, _ => rfl) | (unfold inR; (try simp only [Int.ofNat_eq_natCast]); omega)) ?_)) ?_
            first | refine VSt.pc rfl rfl rfl rfl rfl rfl rfl rfl (hwi) ?_ | refine VSt.pcD rfl rfl rfl rfl rfl rfl rfl rfl (hwi) ?_
            refine VSt.go tb_ok false [] 200 rfl (by repeat (first | exact AllP.n | refine AllP.c (by first | assumption | rfl | omega | exact Nat.le_refl _ | (show 0 < _; omega) | (show 1 < _; omega) | (show 2 < _; omega) | (show 3 < _; omega) | (intro _ _; rfl) | (intro q hq; match q, hq with | 0, _ => rfl) | (unfold inR; (try simp only [Int.ofNat_eq_natCast]); omega)) ?_)) ?_
            first | refine VSt.pc rfl rfl rfl rfl rfl rfl rfl rfl (hfd) ?_ | refine VSt.pcD rfl rfl rfl rfl rfl rfl rfl rfl (hfd) ?_
            refine VSt.go tb_ok false [] 200 rfl (by repeat (first | exact AllP.n | refine AllP.c (by first | assumption | rfl | omega | exact Nat.le_refl _ | (show 0 < _; omega) | (show 1 < _; omega) | (show 2 < _; omega) | (show 3 < _; omega) | (intro _ _; rfl) | (intro q hq; match q, hq with | 0, _ => rfl) | (unfold inR; (try simp only [Int.ofNat_eq_natCast]); omega)) ?_)) ?_
            first | refine VSt.splitO 202 rfl (fun b1 => ?_) (fun b1 => ?_) | refine VSt.splitD 202 rfl (fun b1 => ?_) (fun b1 => ?_)
            rotate_left
            · exact absurd b1 (by decide)
            refine VSt.go tb_ok false [] 200 rfl (by repeat (first | exact AllP.n | refine AllP.c (by first | assumption | rfl | omega | exact Nat.le_refl _ | (show 0 < _; omega) | (show 1 < _; omega) | (show 2 < _; omega) | (show 3 < _; omega) | (intro _ _; rfl) | (intro q hq; match q, hq with | 0, _ => rfl) | (unfold inR; (try simp only [Int.ofNat_eq_natCast]); omega)) ?_)) ?_
            first | refine VSt.splitO 206 rfl (fun b2 => ?_) (fun b2 => ?_) | refine VSt.splitD 206 rfl (fun b2 => ?_) (fun b2 => ?_)
            rotate_left
            · exact absurd b2 (by decide)
            refine VSt.go tb_ok false [] 200 rfl (by repeat (first | exact AllP.n | refine AllP.c (by first | assumption | rfl | omega | exact Nat.le_refl _ | (show 0 < _; omega) | (show 1 < _; omega) | (show 2 < _; omega) | (show 3 < _; omega) | (intro _ _; rfl) | (intro q hq; match q, hq with | 0, _ => rfl) | (unfold inR; (try simp only [Int.ofNat_eq_natCast]); omega)) ?_)) ?_
            first | refine VSt.splitO 211 rfl (fun b3 => ?_) (fun b3 => ?_) | refine VSt.splitD 211 rfl (fun b3 => ?_) (fun b3 => ?_)
            rotate_left
            · have b3 : ((searchS s).cost == (searchS s).cost) = false := b3
              rw [beq_self_eq_true] at b3
              exact absurd b3 (by decide)
            refine VSt.go tb_ok false [] 200 rfl (by repeat (first | exact AllP.n | refine AllP.c (by first | assumption | rfl | omega | exact Nat.le_refl _ | (show 0 < _; omega) | (show 1 < _; omega) | (show 2 < _; omega) | (show 3 < _; omega) | (intro _ _; rfl) | (intro q hq; match q, hq with | 0, _ => rfl) | (unfold inR; (try simp only [Int.ofNat_eq_natCast]); omega)) ?_)) ?_
            first | refine VSt.pc rfl rfl rfl rfl rfl rfl rfl rfl ((VP.hook rfl)) ?_ | refine VSt.pcD rfl rfl rfl rfl rfl rfl rfl rfl ((VP.hook rfl)) ?_
            refine VSt.go tb_ok false [] 200 rfl (by repeat (first | exact AllP.n | refine AllP.c (by first | assumption | rfl | omega | exact Nat.le_refl _ | (show 0 < _; omega) | (show 1 < _; omega) | (show 2 < _; omega) | (show 3 < _; omega) | (intro _ _; rfl) | (intro q hq; match q, hq with | 0, _ => rfl) | (unfold inR; (try simp only [Int.ofNat_eq_natCast]); omega)) ?_)) ?_
            exact EndsP.mk rfl rfl rfl rfl
        · refine VSt.go tb_ok false [] 200 rfl (by repeat (first | exact AllP.n | refine AllP.c (by first | assumption | rfl | omega | exact Nat.le_refl _ | (show 0 < _; omega) | (show 1 < _; omega) | (show 2 < _; omega) | (show 3 < _; omega) | (intro _ _; rfl) | (intro q hq; match q, hq with | 0, _ => rfl) | (unfold inR; (try simp only [Int.ofNat_eq_natCast]); omega)) ?_)) ?_
          first | refine VSt.splitO 155 rfl (fun q1 => ?_) (fun q1 => ?_) | refine VSt.splitD 155 rfl (fun q1 => ?_) (fun q1 => ?_)
          · refine VSt.go tb_ok false [] 200 rfl (by repeat (first | exact AllP.n | refine AllP.c (by first | assumption | rfl | omega | exact Nat.le_refl _ | (show 0 < _; omega) | (show 1 < _; omega) | (show 2 < _; omega) | (show 3 < _; omega) | (intro _ _; rfl) | (intro q hq; match q, hq with | 0, _ => rfl) | (unfold inR; (try simp only [Int.ofNat_eq_natCast]); omega)) ?_)) ?_
            first | refine VSt.pc rfl rfl rfl rfl rfl rfl rfl rfl ((VP.hook rfl)) ?_ | refine VSt.pcD rfl rfl rfl rfl rfl rfl rfl rfl ((VP.hook rfl)) ?_
            refine VSt.go tb_ok false [] 200 rfl (by repeat (first | exact AllP.n | refine AllP.c (by first | assumption | rfl | omega | exact Nat.le_refl _ | (show 0 < _; omega) | (show 1 < _; omega) | (show 2 < _; omega) | (show 3 < _; omega) | (intro _ _; rfl) | (intro q hq; match q, hq with | 0, _ => rfl) | (unfold inR; (try simp only [Int.ofNat_eq_natCast]); omega)) ?_)) ?_
            exact EndsP.mk rfl rfl rfl rfl
          have hnv : s.never = [] := by
            have q3 := of_decide_eq_false q1
            simp only [Int.ofNat_eq_natCast] at q3
            exact List.length_eq_zero_iff.1 (by omega)
          refine VSt.go tb_ok false [] 200 rfl (by repeat (first | exact AllP.n | refine AllP.c (by first | assumption | rfl | omega | exact Nat.le_refl _ | (show 0 < _; omega) | (show 1 < _; omega) | (show 2 < _; omega) | (show 3 < _; omega) | (intro _ _; rfl) | (intro q hq; match q, hq with | 0, _ => rfl) | (unfold inR; (try simp only [Int.ofNat_eq_natCast]); omega)) ?_)) ?_
          first | refine VSt.splitO 161 rfl (fun q2 => ?_) (fun q2 => ?_) | refine VSt.splitD 161 rfl (fun q2 => ?_) (fun q2 => ?_)
          · refine VSt.go tb_ok false [] 200 rfl (by repeat (first | exact AllP.n | refine AllP.c (by first | assumption | rfl | omega | exact Nat.le_refl _ | (show 0 < _; omega) | (show 1 < _; omega) | (show 2 < _; omega) | (show 3 < _; omega) | (intro _ _; rfl) | (intro q hq; match q, hq with | 0, _ => rfl) | (unfold inR; (try simp only [Int.ofNat_eq_natCast]); omega)) ?_)) ?_
            first | refine VSt.pc rfl rfl rfl rfl rfl rfl rfl rfl ((VP.hook rfl)) ?_ | refine VSt.pcD rfl rfl rfl rfl rfl rfl rfl rfl ((VP.hook rfl)) ?_
            refine VSt.go tb_ok false [] 200 rfl (by repeat (first | exact AllP.n | refine AllP.c (by first | assumption | rfl | omega | exact Nat.le_refl _ | (show 0 < _; omega) | (show 1 < _; omega) | (show 2 < _; omega) | (show 3 < _; omega) | (intro _ _; rfl) | (intro q hq; match q, hq with | 0, _ => rfl) | (unfold inR; (try simp only [Int.ofNat_eq_natCast]); omega)) ?_)) ?_
            exact EndsP.mk rfl rfl rfl rfl
          have h7 : s.copies.length < 7 := by
            have q3 : (Int.ofNat s.copies.length == 7) = false := q2
            have q4 : ¬ Int.ofNat s.copies.length = 7 := by simpa using q3
            simp only [Int.ofNat_eq_natCast] at q4
            omega
          refine VSt.go tb_ok false [] 200 rfl (by repeat (first | exact AllP.n | refine AllP.c (by first | assumption | rfl | omega | exact Nat.le_refl _ | (show 0 < _; omega) | (show 1 < _; omega) | (show 2 < _; omega) | (show 3 < _; omega) | (intro _ _; rfl) | (intro q hq; match q, hq with | 0, _ => rfl) | (unfold inR; (try simp only [Int.ofNat_eq_natCast]); omega)) ?_)) ?_
          refine VSt.cond rfl (fun q3 => absurd q3 (by decide)) (fun _ => ?_)
          refine VSt.go tb_ok false [] 200 rfl (by repeat (first | exact AllP.n | refine AllP.c (by first | assumption | rfl | omega | exact Nat.le_refl _ | (show 0 < _; omega) | (show 1 < _; omega) | (show 2 < _; omega) | (show 3 < _; omega) | (intro _ _; rfl) | (intro q hq; match q, hq with | 0, _ => rfl) | (unfold inR; (try simp only [Int.ofNat_eq_natCast]); omega)) ?_)) ?_
          first | refine VSt.viewC (Vw.kp [2, 5, 9, 14, 167, 168, 169] [(0, 0)] rfl) ?_ | refine VSt.viewO (Vw.kp [2, 5, 9, 14, 167, 168, 169] [(0, 0)] rfl) ?_ | refine VSt.viewD (Vw.kp [2, 5, 9, 14, 167, 168, 169] [(0, 0)] rfl) ?_
          refine VSt.viewC (Vw.freezeC 0 (eStem s) rfl rfl) ?_
          refine VSt.rangeT tb_ok s.copies.length (by omega) [2, 5, 9, 167] (fun m => [(14, iv (mexS s m))]) (fun _ => []) (fun _ => True) rfl rfl rfl (fun _ => rfl) rfl rfl (u0_cons rfl (AImp.refl _) u0_nil) trivial trivial (fun m hm _ => ?_) (fun _ => ?_)
          · have hm1 := (mex_inv hv m (by omega)).1
            have hm2 := (mex_inv hv m (by omega)).2.1
            refine VSt.go tb_ok false [] 200 rfl (by repeat (first | exact AllP.n | refine AllP.c (by first | assumption | rfl | omega | exact Nat.le_refl _ | (show 0 < _; omega) | (show 1 < _; omega) | (show 2 < _; omega) | (show 3 < _; omega) | (intro _ _; rfl) | (intro q hq; match q, hq with | 0, _ => rfl) | (unfold inR; (try simp only [Int.ofNat_eq_natCast]); omega)) ?_)) ?_
            refine VSt.cond rfl (fun q4 => ?_) (fun q4 => ?_)
            · have q4 : ((s.copies.getD m default).id == mexS s m) = true := q4
              have e : mexS s (m + 1) = mexS s m + 1 := by
                show (bif (s.copies.getD m default).id == mexS s m then _ else _) = _
                rw [q4]; rfl
              refine VSt.go tb_ok false [] 200 rfl (by repeat (first | exact AllP.n | refine AllP.c (by first | assumption | rfl | omega | exact Nat.le_refl _ | (show 0 < _; omega) | (show 1 < _; omega) | (show 2 < _; omega) | (show 3 < _; omega) | (intro _ _; rfl) | (intro q hq; match q, hq with | 0, _ => rfl) | (unfold inR; (try simp only [Int.ofNat_eq_natCast]); omega)) ?_)) ?_
              refine ⟨?_, trivial⟩
              dsimp only
              rw [e]
              first | (refine Vw.drop (by repeat (first | exact wf_nil | refine wf_back rfl rfl rfl ?_ | refine wf_cons rfl (by assumption) (ren_only _ (by assumption)) ?_))) | refine Wk.vw (ps := []) ⟨rfl, rfl, (by repeat (first | exact wf_nil | refine wf_back rfl rfl rfl ?_)), _, rfl, (trivial)⟩
            · have q4 : ((s.copies.getD m default).id == mexS s m) = false := q4
              have e : mexS s (m + 1) = mexS s m := by
                show (bif (s.copies.getD m default).id == mexS s m then _ else _) = _
                rw [q4]; rfl
              refine VSt.go tb_ok false [] 200 rfl (by repeat (first | exact AllP.n | refine AllP.c (by first | assumption | rfl | omega | exact Nat.le_refl _ | (show 0 < _; omega) | (show 1 < _; omega) | (show 2 < _; omega) | (show 3 < _; omega) | (intro _ _; rfl) | (intro q hq; match q, hq with | 0, _ => rfl) | (unfold inR; (try simp only [Int.ofNat_eq_natCast]); omega)) ?_)) ?_
              refine ⟨?_, trivial⟩
              dsimp only
              rw [e]
              first | (refine Vw.drop (by repeat (first | exact wf_nil | refine wf_back rfl rfl rfl ?_ | refine wf_cons rfl (by assumption) (ren_only _ (by assumption)) ?_))) | refine Wk.vw (ps := []) ⟨rfl, rfl, (by repeat (first | exact wf_nil | refine wf_back rfl rfl rfl ?_)), _, rfl, (trivial)⟩
          · have hwl := (ckCopy_of (hv.copy hi)).2.1
            have hmi := mex_inv hv s.copies.length (Nat.le_refl _)
            have hck : ckCopy ⟨mexS s s.copies.length, (s.copies.getD i default).words, false⟩ = 0 := ck_id (hv.copy hi) hmi.1 (by have := hmi.2.1; omega)
            have hwp := with_plus h0 hck (mex_place hv) (hv.words hi) h7
            have hpk2 := plus_ck h0 hck (mex_place hv) (by omega) (hv.words hi) h7 hnv
            have hpc := plus_cost (i := i) hE hpk2 hi rfl hnv
            have hwi := pWith_ok (r := r) s ⟨mexS s s.copies.length, (s.copies.getD i default).words, false⟩ hs hf (fun e => Bool.noConfusion e) (by show (s.copies.getD i default).words.length < _; omega)
            have hso := withS_ok (c := ⟨mexS s s.copies.length, (s.copies.getD i default).words, false⟩) hs (by show (s.copies.getD i default).words.length < _; omega)
            rw [hwp.1, hwp.2] at hwi
            rw [hwp.2] at hso
            have hfd := Fewest_ok (r := r) hso
            rw [if_pos hpc.1, hpc.1, hpc.2] at hfd
            refine VSt.go tb_ok false [191] 200 rfl (by repeat (first | exact AllP.n | refine AllP.c (by first | assumption | rfl | omega | exact Nat.le_refl _ | (show 0 < _; omega) | (show 1 < _; omega) | (show 2 < _; omega) | (show 3 < _; omega) | (intro _ _; rfl) | (intro q hq; match q, hq with | 0, _ => rfl) | (unfold inR; (try simp only [Int.ofNat_eq_natCast]); omega)) ?_)) ?_
            refine VSt.dropK 1 ?_
            refine VSt.viewD (Vw.freeze 1 rfl rfl ⟨Nat.le_of_eq (Nat.zero_add _), Nat.le_refl _, rfl⟩) ?_
            first | refine VSt.putO 190 (.p (eInts false (s.copies.getD i default).words)) rfl (words_imp fun k hk => by rw [Nat.zero_add]; rfl) ?_ | refine VSt.putD 190 (.p (eInts false (s.copies.getD i default).words)) rfl (words_imp fun k hk => by rw [Nat.zero_add]; rfl) ?_ | refine VSt.putC 190 (.p (eInts false (s.copies.getD i default).words)) rfl (words_imp fun k hk => by rw [Nat.zero_add]; rfl) ?_
            refine VSt.go tb_ok false [] 200 rfl (by repeat (first | exact AllP.n | refine AllP.c (by first | assumption | rfl | omega | exact Nat.le_refl _ | (show 0 < _; omega) | (show 1 < _; omega) | (show 2 < _; omega) | (show 3 < _; omega) | (intro _ _; rfl) | (intro q hq; match q, hq with | 0, _ => rfl) | (unfold inR; (try simp only [Int.ofNat_eq_natCast]); omega)) ?_)) ?_
            first | refine VSt.pc rfl rfl rfl rfl rfl rfl rfl rfl (hwi) ?_ | refine VSt.pcD rfl rfl rfl rfl rfl rfl rfl rfl (hwi) ?_
            refine VSt.go tb_ok false [] 200 rfl (by repeat (first | exact AllP.n | refine AllP.c (by first | assumption | rfl | omega | exact Nat.le_refl _ | (show 0 < _; omega) | (show 1 < _; omega) | (show 2 < _; omega) | (show 3 < _; omega) | (intro _ _; rfl) | (intro q hq; match q, hq with | 0, _ => rfl) | (unfold inR; (try simp only [Int.ofNat_eq_natCast]); omega)) ?_)) ?_
            first | refine VSt.pc rfl rfl rfl rfl rfl rfl rfl rfl (hfd) ?_ | refine VSt.pcD rfl rfl rfl rfl rfl rfl rfl rfl (hfd) ?_
            refine VSt.go tb_ok false [] 200 rfl (by repeat (first | exact AllP.n | refine AllP.c (by first | assumption | rfl | omega | exact Nat.le_refl _ | (show 0 < _; omega) | (show 1 < _; omega) | (show 2 < _; omega) | (show 3 < _; omega) | (intro _ _; rfl) | (intro q hq; match q, hq with | 0, _ => rfl) | (unfold inR; (try simp only [Int.ofNat_eq_natCast]); omega)) ?_)) ?_
            first | refine VSt.splitO 202 rfl (fun b1 => ?_) (fun b1 => ?_) | refine VSt.splitD 202 rfl (fun b1 => ?_) (fun b1 => ?_)
            rotate_left
            · exact absurd b1 (by decide)
            refine VSt.go tb_ok false [] 200 rfl (by repeat (first | exact AllP.n | refine AllP.c (by first | assumption | rfl | omega | exact Nat.le_refl _ | (show 0 < _; omega) | (show 1 < _; omega) | (show 2 < _; omega) | (show 3 < _; omega) | (intro _ _; rfl) | (intro q hq; match q, hq with | 0, _ => rfl) | (unfold inR; (try simp only [Int.ofNat_eq_natCast]); omega)) ?_)) ?_
            first | refine VSt.splitO 206 rfl (fun b2 => ?_) (fun b2 => ?_) | refine VSt.splitD 206 rfl (fun b2 => ?_) (fun b2 => ?_)
            rotate_left
            · exact absurd b2 (by decide)
            refine VSt.go tb_ok false [] 200 rfl (by repeat (first | exact AllP.n | refine AllP.c (by first | assumption | rfl | omega | exact Nat.le_refl _ | (show 0 < _; omega) | (show 1 < _; omega) | (show 2 < _; omega) | (show 3 < _; omega) | (intro _ _; rfl) | (intro q hq; match q, hq with | 0, _ => rfl) | (unfold inR; (try simp only [Int.ofNat_eq_natCast]); omega)) ?_)) ?_
            first | refine VSt.splitO 211 rfl (fun b3 => ?_) (fun b3 => ?_) | refine VSt.splitD 211 rfl (fun b3 => ?_) (fun b3 => ?_)
            rotate_left
            · have b3 : ((searchS s).cost == (searchS s).cost) = false := b3
              rw [beq_self_eq_true] at b3
              exact absurd b3 (by decide)
            refine VSt.go tb_ok false [] 200 rfl (by repeat (first | exact AllP.n | refine AllP.c (by first | assumption | rfl | omega | exact Nat.le_refl _ | (show 0 < _; omega) | (show 1 < _; omega) | (show 2 < _; omega) | (show 3 < _; omega) | (intro _ _; rfl) | (intro q hq; match q, hq with | 0, _ => rfl) | (unfold inR; (try simp only [Int.ofNat_eq_natCast]); omega)) ?_)) ?_
            first | refine VSt.pc rfl rfl rfl rfl rfl rfl rfl rfl ((VP.hook rfl)) ?_ | refine VSt.pcD rfl rfl rfl rfl rfl rfl rfl rfl ((VP.hook rfl)) ?_
            refine VSt.go tb_ok false [] 200 rfl (by repeat (first | exact AllP.n | refine AllP.c (by first | assumption | rfl | omega | exact Nat.le_refl _ | (show 0 < _; omega) | (show 1 < _; omega) | (show 2 < _; omega) | (show 3 < _; omega) | (intro _ _; rfl) | (intro q hq; match q, hq with | 0, _ => rfl) | (unfold inR; (try simp only [Int.ofNat_eq_natCast]); omega)) ?_)) ?_
            exact EndsP.mk rfl rfl rfl rfl
      · have h45 := (studE_or' hM).resolve_left hG
        rw [if_neg hG, h45] at hfm
        first | refine VSt.pc rfl rfl rfl rfl rfl rfl rfl rfl (hfm) ?_ | refine VSt.pcD rfl rfl rfl rfl rfl rfl rfl rfl (hfm) ?_
        refine VSt.go tb_ok false [] 200 rfl (by repeat (first | exact AllP.n | refine AllP.c (by first | assumption | rfl | omega | exact Nat.le_refl _ | (show 0 < _; omega) | (show 1 < _; omega) | (show 2 < _; omega) | (show 3 < _; omega) | (intro _ _; rfl) | (intro q hq; match q, hq with | 0, _ => rfl) | (unfold inR; (try simp only [Int.ofNat_eq_natCast]); omega)) ?_)) ?_
        first | refine VSt.splitO 104 rfl (fun a1 => ?_) (fun a1 => ?_) | refine VSt.splitD 104 rfl (fun a1 => ?_) (fun a1 => ?_)
        · exact absurd a1 (by decide)
        refine VSt.go tb_ok false [] 200 rfl (by repeat (first | exact AllP.n | refine AllP.c (by first | assumption | rfl | omega | exact Nat.le_refl _ | (show 0 < _; omega) | (show 1 < _; omega) | (show 2 < _; omega) | (show 3 < _; omega) | (intro _ _; rfl) | (intro q hq; match q, hq with | 0, _ => rfl) | (unfold inR; (try simp only [Int.ofNat_eq_natCast]); omega)) ?_)) ?_
        first | refine VSt.splitO 116 rfl (fun a4 => ?_) (fun a4 => ?_) | refine VSt.splitD 116 rfl (fun a4 => ?_) (fun a4 => ?_)
        rotate_left
        · exact absurd a4 (by decide)
        refine VSt.go tb_ok false [] 200 rfl (by repeat (first | exact AllP.n | refine AllP.c (by first | assumption | rfl | omega | exact Nat.le_refl _ | (show 0 < _; omega) | (show 1 < _; omega) | (show 2 < _; omega) | (show 3 < _; omega) | (intro _ _; rfl) | (intro q hq; match q, hq with | 0, _ => rfl) | (unfold inR; (try simp only [Int.ofNat_eq_natCast]); omega)) ?_)) ?_
        refine VSt.cond rfl (fun a5 => absurd a5 (by decide)) (fun _ => ?_)
        refine VSt.go tb_ok false [] 200 rfl (by repeat (first | exact AllP.n | refine AllP.c (by first | assumption | rfl | omega | exact Nat.le_refl _ | (show 0 < _; omega) | (show 1 < _; omega) | (show 2 < _; omega) | (show 3 < _; omega) | (intro _ _; rfl) | (intro q hq; match q, hq with | 0, _ => rfl) | (unfold inR; (try simp only [Int.ofNat_eq_natCast]); omega)) ?_)) ?_
        first | refine VSt.splitO 123 rfl (fun a5 => ?_) (fun a5 => ?_) | refine VSt.splitD 123 rfl (fun a5 => ?_) (fun a5 => ?_)
        rotate_left
        · exact absurd a5 (by decide)
        refine VSt.go tb_ok false [] 200 rfl (by repeat (first | exact AllP.n | refine AllP.c (by first | assumption | rfl | omega | exact Nat.le_refl _ | (show 0 < _; omega) | (show 1 < _; omega) | (show 2 < _; omega) | (show 3 < _; omega) | (intro _ _; rfl) | (intro q hq; match q, hq with | 0, _ => rfl) | (unfold inR; (try simp only [Int.ofNat_eq_natCast]); omega)) ?_)) ?_
        first | refine VSt.splitO 136 rfl (fun hP => ?_) (fun hP => ?_) | refine VSt.splitD 136 rfl (fun hP => ?_) (fun hP => ?_)
        · have hP : (!((pedL s).getD k 0 == idAt s i)) = true := hP
          have hsame := hsame (fun e => by have e : (pedL s).getD k 0 = idAt s i := e; rw [e, beq_self_eq_true] at hP; exact absurd hP (by decide))
          exact absurd hsame.1 hG
        refine VSt.go tb_ok false [] 200 rfl (by repeat (first | exact AllP.n | refine AllP.c (by first | assumption | rfl | omega | exact Nat.le_refl _ | (show 0 < _; omega) | (show 1 < _; omega) | (show 2 < _; omega) | (show 3 < _; omega) | (intro _ _; rfl) | (intro q hq; match q, hq with | 0, _ => rfl) | (unfold inR; (try simp only [Int.ofNat_eq_natCast]); omega)) ?_)) ?_
        first | refine VSt.splitO 155 rfl (fun q1 => ?_) (fun q1 => ?_) | refine VSt.splitD 155 rfl (fun q1 => ?_) (fun q1 => ?_)
        · refine VSt.go tb_ok false [] 200 rfl (by repeat (first | exact AllP.n | refine AllP.c (by first | assumption | rfl | omega | exact Nat.le_refl _ | (show 0 < _; omega) | (show 1 < _; omega) | (show 2 < _; omega) | (show 3 < _; omega) | (intro _ _; rfl) | (intro q hq; match q, hq with | 0, _ => rfl) | (unfold inR; (try simp only [Int.ofNat_eq_natCast]); omega)) ?_)) ?_
          first | refine VSt.pc rfl rfl rfl rfl rfl rfl rfl rfl ((VP.hook rfl)) ?_ | refine VSt.pcD rfl rfl rfl rfl rfl rfl rfl rfl ((VP.hook rfl)) ?_
          refine VSt.go tb_ok false [] 200 rfl (by repeat (first | exact AllP.n | refine AllP.c (by first | assumption | rfl | omega | exact Nat.le_refl _ | (show 0 < _; omega) | (show 1 < _; omega) | (show 2 < _; omega) | (show 3 < _; omega) | (intro _ _; rfl) | (intro q hq; match q, hq with | 0, _ => rfl) | (unfold inR; (try simp only [Int.ofNat_eq_natCast]); omega)) ?_)) ?_
          exact EndsP.mk rfl rfl rfl rfl
        have hnv : s.never = [] := by
          have q3 := of_decide_eq_false q1
          simp only [Int.ofNat_eq_natCast] at q3
          exact List.length_eq_zero_iff.1 (by omega)
        refine VSt.go tb_ok false [] 200 rfl (by repeat (first | exact AllP.n | refine AllP.c (by first | assumption | rfl | omega | exact Nat.le_refl _ | (show 0 < _; omega) | (show 1 < _; omega) | (show 2 < _; omega) | (show 3 < _; omega) | (intro _ _; rfl) | (intro q hq; match q, hq with | 0, _ => rfl) | (unfold inR; (try simp only [Int.ofNat_eq_natCast]); omega)) ?_)) ?_
        first | refine VSt.splitO 161 rfl (fun q2 => ?_) (fun q2 => ?_) | refine VSt.splitD 161 rfl (fun q2 => ?_) (fun q2 => ?_)
        · refine VSt.go tb_ok false [] 200 rfl (by repeat (first | exact AllP.n | refine AllP.c (by first | assumption | rfl | omega | exact Nat.le_refl _ | (show 0 < _; omega) | (show 1 < _; omega) | (show 2 < _; omega) | (show 3 < _; omega) | (intro _ _; rfl) | (intro q hq; match q, hq with | 0, _ => rfl) | (unfold inR; (try simp only [Int.ofNat_eq_natCast]); omega)) ?_)) ?_
          first | refine VSt.pc rfl rfl rfl rfl rfl rfl rfl rfl ((VP.hook rfl)) ?_ | refine VSt.pcD rfl rfl rfl rfl rfl rfl rfl rfl ((VP.hook rfl)) ?_
          refine VSt.go tb_ok false [] 200 rfl (by repeat (first | exact AllP.n | refine AllP.c (by first | assumption | rfl | omega | exact Nat.le_refl _ | (show 0 < _; omega) | (show 1 < _; omega) | (show 2 < _; omega) | (show 3 < _; omega) | (intro _ _; rfl) | (intro q hq; match q, hq with | 0, _ => rfl) | (unfold inR; (try simp only [Int.ofNat_eq_natCast]); omega)) ?_)) ?_
          exact EndsP.mk rfl rfl rfl rfl
        have h7 : s.copies.length < 7 := by
          have q3 : (Int.ofNat s.copies.length == 7) = false := q2
          have q4 : ¬ Int.ofNat s.copies.length = 7 := by simpa using q3
          simp only [Int.ofNat_eq_natCast] at q4
          omega
        refine VSt.go tb_ok false [] 200 rfl (by repeat (first | exact AllP.n | refine AllP.c (by first | assumption | rfl | omega | exact Nat.le_refl _ | (show 0 < _; omega) | (show 1 < _; omega) | (show 2 < _; omega) | (show 3 < _; omega) | (intro _ _; rfl) | (intro q hq; match q, hq with | 0, _ => rfl) | (unfold inR; (try simp only [Int.ofNat_eq_natCast]); omega)) ?_)) ?_
        refine VSt.cond rfl (fun q3 => absurd q3 (by decide)) (fun _ => ?_)
        refine VSt.go tb_ok false [] 200 rfl (by repeat (first | exact AllP.n | refine AllP.c (by first | assumption | rfl | omega | exact Nat.le_refl _ | (show 0 < _; omega) | (show 1 < _; omega) | (show 2 < _; omega) | (show 3 < _; omega) | (intro _ _; rfl) | (intro q hq; match q, hq with | 0, _ => rfl) | (unfold inR; (try simp only [Int.ofNat_eq_natCast]); omega)) ?_)) ?_
        first | refine VSt.viewC (Vw.kp [2, 5, 9, 14, 167, 168, 169] [(0, 0)] rfl) ?_ | refine VSt.viewO (Vw.kp [2, 5, 9, 14, 167, 168, 169] [(0, 0)] rfl) ?_ | refine VSt.viewD (Vw.kp [2, 5, 9, 14, 167, 168, 169] [(0, 0)] rfl) ?_
        refine VSt.viewC (Vw.freezeC 0 (eStem s) rfl rfl) ?_
        refine VSt.rangeT tb_ok s.copies.length (by omega) [2, 5, 9, 167] (fun m => [(14, iv (mexS s m))]) (fun _ => []) (fun _ => True) rfl rfl rfl (fun _ => rfl) rfl rfl (u0_cons rfl (AImp.refl _) u0_nil) trivial trivial (fun m hm _ => ?_) (fun _ => ?_)
        · have hm1 := (mex_inv hv m (by omega)).1
          have hm2 := (mex_inv hv m (by omega)).2.1
          refine VSt.go tb_ok false [] 200 rfl (by repeat (first | exact AllP.n | refine AllP.c (by first | assumption | rfl | omega | exact Nat.le_refl _ | (show 0 < _; omega) | (show 1 < _; omega) | (show 2 < _; omega) | (show 3 < _; omega) | (intro _ _; rfl) | (intro q hq; match q, hq with | 0, _ => rfl) | (unfold inR; (try simp only [Int.ofNat_eq_natCast]); omega)) ?_)) ?_
          refine VSt.cond rfl (fun q4 => ?_) (fun q4 => ?_)
          · have q4 : ((s.copies.getD m default).id == mexS s m) = true := q4
            have e : mexS s (m + 1) = mexS s m + 1 := by
              show (bif (s.copies.getD m default).id == mexS s m then _ else _) = _
              rw [q4]; rfl
            refine VSt.go tb_ok false [] 200 rfl (by repeat (first | exact AllP.n | refine AllP.c (by first | assumption | rfl | omega | exact Nat.le_refl _ | (show 0 < _; omega) | (show 1 < _; omega) | (show 2 < _; omega) | (show 3 < _; omega) | (intro _ _; rfl) | (intro q hq; match q, hq with | 0, _ => rfl) | (unfold inR; (try simp only [Int.ofNat_eq_natCast]); omega)) ?_)) ?_
            refine ⟨?_, trivial⟩
            dsimp only
            rw [e]
            first | (refine Vw.drop (by repeat (first | exact wf_nil | refine wf_back rfl rfl rfl ?_ | refine wf_cons rfl (by assumption) (ren_only _ (by assumption)) ?_))) | refine Wk.vw (ps := []) ⟨rfl, rfl, (by repeat (first | exact wf_nil | refine wf_back rfl rfl rfl ?_)), _, rfl, (trivial)⟩
          · have q4 : ((s.copies.getD m default).id == mexS s m) = false := q4
            have e : mexS s (m + 1) = mexS s m := by
              show (bif (s.copies.getD m default).id == mexS s m then _ else _) = _
              rw [q4]; rfl
            refine VSt.go tb_ok false [] 200 rfl (by repeat (first | exact AllP.n | refine AllP.c (by first | assumption | rfl | omega | exact Nat.le_refl _ | (show 0 < _; omega) | (show 1 < _; omega) | (show 2 < _; omega) | (show 3 < _; omega) | (intro _ _; rfl) | (intro q hq; match q, hq with | 0, _ => rfl) | (unfold inR; (try simp only [Int.ofNat_eq_natCast]); omega)) ?_)) ?_
            refine ⟨?_, trivial⟩
            dsimp only
            rw [e]
            first | (refine Vw.drop (by repeat (first | exact wf_nil | refine wf_back rfl rfl rfl ?_ | refine wf_cons rfl (by assumption) (ren_only _ (by assumption)) ?_))) | refine Wk.vw (ps := []) ⟨rfl, rfl, (by repeat (first | exact wf_nil | refine wf_back rfl rfl rfl ?_)), _, rfl, (trivial)⟩
        · have hwl := (ckCopy_of (hv.copy hi)).2.1
          have hmi := mex_inv hv s.copies.length (Nat.le_refl _)
          have hck : ckCopy ⟨mexS s s.copies.length, (s.copies.getD i default).words, false⟩ = 0 := ck_id (hv.copy hi) hmi.1 (by have := hmi.2.1; omega)
          have hwp := with_plus h0 hck (mex_place hv) (hv.words hi) h7
          have hpk2 := plus_ck h0 hck (mex_place hv) (by omega) (hv.words hi) h7 hnv
          have hpc := plus_cost (i := i) hE hpk2 hi rfl hnv
          have hwi := pWith_ok (r := r) s ⟨mexS s s.copies.length, (s.copies.getD i default).words, false⟩ hs hf (fun e => Bool.noConfusion e) (by show (s.copies.getD i default).words.length < _; omega)
          have hso := withS_ok (c := ⟨mexS s s.copies.length, (s.copies.getD i default).words, false⟩) hs (by show (s.copies.getD i default).words.length < _; omega)
          rw [hwp.1, hwp.2] at hwi
          rw [hwp.2] at hso
          have hfd := Fewest_ok (r := r) hso
          rw [if_pos hpc.1, hpc.1, hpc.2] at hfd
          refine VSt.go tb_ok false [191] 200 rfl (by repeat (first | exact AllP.n | refine AllP.c (by first | assumption | rfl | omega | exact Nat.le_refl _ | (show 0 < _; omega) | (show 1 < _; omega) | (show 2 < _; omega) | (show 3 < _; omega) | (intro _ _; rfl) | (intro q hq; match q, hq with | 0, _ => rfl) | (unfold inR; (try simp only [Int.ofNat_eq_natCast]); omega)) ?_)) ?_
          refine VSt.dropK 1 ?_
          refine VSt.viewD (Vw.freeze 1 rfl rfl ⟨Nat.le_of_eq (Nat.zero_add _), Nat.le_refl _, rfl⟩) ?_
          first | refine VSt.putO 190 (.p (eInts false (s.copies.getD i default).words)) rfl (words_imp fun k hk => by rw [Nat.zero_add]; rfl) ?_ | refine VSt.putD 190 (.p (eInts false (s.copies.getD i default).words)) rfl (words_imp fun k hk => by rw [Nat.zero_add]; rfl) ?_ | refine VSt.putC 190 (.p (eInts false (s.copies.getD i default).words)) rfl (words_imp fun k hk => by rw [Nat.zero_add]; rfl) ?_
          refine VSt.go tb_ok false [] 200 rfl (by repeat (first | exact AllP.n | refine AllP.c (by first | assumption | rfl | omega | exact Nat.le_refl _ | (show 0 < _; omega) | (show 1 < _; omega) | (show 2 < _; omega) | (show 3 < _; omega) | (intro _ _; rfl) | (intro q hq; match q, hq with | 0, _ => rfl) | (unfold inR; (try simp only [Int.ofNat_eq_natCast]); omega)) ?_)) ?_
          first | refine VSt.pc rfl rfl rfl rfl rfl rfl rfl rfl (hwi) ?_ | refine VSt.pcD rfl rfl rfl rfl rfl rfl rfl rfl (hwi) ?_
          refine VSt.go tb_ok false [] 200 rfl (by repeat (first | exact AllP.n | refine AllP.c (by first | assumption | rfl | omega | exact Nat.le_refl _ | (show 0 < _; omega) | (show 1 < _; omega) | (show 2 < _; omega) | (show 3 < _; omega) | (intro _ _; rfl) | (intro q hq; match q, hq with | 0, _ => rfl) | (unfold inR; (try simp only [Int.ofNat_eq_natCast]); omega)) ?_)) ?_
          first | refine VSt.pc rfl rfl rfl rfl rfl rfl rfl rfl (hfd) ?_ | refine VSt.pcD rfl rfl rfl rfl rfl rfl rfl rfl (hfd) ?_
          refine VSt.go tb_ok false [] 200 rfl (by repeat (first | exact AllP.n | refine AllP.c (by first | assumption | rfl | omega | exact Nat.le_refl _ | (show 0 < _; omega) | (show 1 < _; omega) | (show 2 < _; omega) | (show 3 < _; omega) | (intro _ _; rfl) | (intro q hq; match q, hq with | 0, _ => rfl) | (unfold inR; (try simp only [Int.ofNat_eq_natCast]); omega)) ?_)) ?_
          first | refine VSt.splitO 202 rfl (fun b1 => ?_) (fun b1 => ?_) | refine VSt.splitD 202 rfl (fun b1 => ?_) (fun b1 => ?_)
          rotate_left
          · exact absurd b1 (by decide)
          refine VSt.go tb_ok false [] 200 rfl (by repeat (first | exact AllP.n | refine AllP.c (by first | assumption | rfl | omega | exact Nat.le_refl _ | (show 0 < _; omega) | (show 1 < _; omega) | (show 2 < _; omega) | (show 3 < _; omega) | (intro _ _; rfl) | (intro q hq; match q, hq with | 0, _ => rfl) | (unfold inR; (try simp only [Int.ofNat_eq_natCast]); omega)) ?_)) ?_
          first | refine VSt.splitO 206 rfl (fun b2 => ?_) (fun b2 => ?_) | refine VSt.splitD 206 rfl (fun b2 => ?_) (fun b2 => ?_)
          rotate_left
          · exact absurd b2 (by decide)
          refine VSt.go tb_ok false [] 200 rfl (by repeat (first | exact AllP.n | refine AllP.c (by first | assumption | rfl | omega | exact Nat.le_refl _ | (show 0 < _; omega) | (show 1 < _; omega) | (show 2 < _; omega) | (show 3 < _; omega) | (intro _ _; rfl) | (intro q hq; match q, hq with | 0, _ => rfl) | (unfold inR; (try simp only [Int.ofNat_eq_natCast]); omega)) ?_)) ?_
          first | refine VSt.splitO 211 rfl (fun b3 => ?_) (fun b3 => ?_) | refine VSt.splitD 211 rfl (fun b3 => ?_) (fun b3 => ?_)
          rotate_left
          · have b3 : ((searchS s).cost == (searchS s).cost) = false := b3
            rw [beq_self_eq_true] at b3
            exact absurd b3 (by decide)
          refine VSt.go tb_ok false [] 200 rfl (by repeat (first | exact AllP.n | refine AllP.c (by first | assumption | rfl | omega | exact Nat.le_refl _ | (show 0 < _; omega) | (show 1 < _; omega) | (show 2 < _; omega) | (show 3 < _; omega) | (intro _ _; rfl) | (intro q hq; match q, hq with | 0, _ => rfl) | (unfold inR; (try simp only [Int.ofNat_eq_natCast]); omega)) ?_)) ?_
          first | refine VSt.pc rfl rfl rfl rfl rfl rfl rfl rfl ((VP.hook rfl)) ?_ | refine VSt.pcD rfl rfl rfl rfl rfl rfl rfl rfl ((VP.hook rfl)) ?_
          refine VSt.go tb_ok false [] 200 rfl (by repeat (first | exact AllP.n | refine AllP.c (by first | assumption | rfl | omega | exact Nat.le_refl _ | (show 0 < _; omega) | (show 1 < _; omega) | (show 2 < _; omega) | (show 3 < _; omega) | (intro _ _; rfl) | (intro q hq; match q, hq with | 0, _ => rfl) | (unfold inR; (try simp only [Int.ofNat_eq_natCast]); omega)) ?_)) ?_
          exact EndsP.mk rfl rfl rfl rfl
    · refine VSt.go tb_ok false [] 200 rfl (by repeat (first | exact AllP.n | refine AllP.c (by first | assumption | rfl | omega | exact Nat.le_refl _ | (show 0 < _; omega) | (show 1 < _; omega) | (show 2 < _; omega) | (show 3 < _; omega) | (intro _ _; rfl) | (intro q hq; match q, hq with | 0, _ => rfl) | (unfold inR; (try simp only [Int.ofNat_eq_natCast]); omega)) ?_)) ?_
      first | refine VSt.splitO 155 rfl (fun q1 => ?_) (fun q1 => ?_) | refine VSt.splitD 155 rfl (fun q1 => ?_) (fun q1 => ?_)
      · refine VSt.go tb_ok false [] 200 rfl (by repeat (first | exact AllP.n | refine AllP.c (by first | assumption | rfl | omega | exact Nat.le_refl _ | (show 0 < _; omega) | (show 1 < _; omega) | (show 2 < _; omega) | (show 3 < _; omega) | (intro _ _; rfl) | (intro q hq; match q, hq with | 0, _ => rfl) | (unfold inR; (try simp only [Int.ofNat_eq_natCast]); omega)) ?_)) ?_
        first | refine VSt.pc rfl rfl rfl rfl rfl rfl rfl rfl ((VP.hook rfl)) ?_ | refine VSt.pcD rfl rfl rfl rfl rfl rfl rfl rfl ((VP.hook rfl)) ?_
        refine VSt.go tb_ok false [] 200 rfl (by repeat (first | exact AllP.n | refine AllP.c (by first | assumption | rfl | omega | exact Nat.le_refl _ | (show 0 < _; omega) | (show 1 < _; omega) | (show 2 < _; omega) | (show 3 < _; omega) | (intro _ _; rfl) | (intro q hq; match q, hq with | 0, _ => rfl) | (unfold inR; (try simp only [Int.ofNat_eq_natCast]); omega)) ?_)) ?_
        exact EndsP.mk rfl rfl rfl rfl
      have hnv : s.never = [] := by
        have q3 := of_decide_eq_false q1
        simp only [Int.ofNat_eq_natCast] at q3
        exact List.length_eq_zero_iff.1 (by omega)
      refine VSt.go tb_ok false [] 200 rfl (by repeat (first | exact AllP.n | refine AllP.c (by first | assumption | rfl | omega | exact Nat.le_refl _ | (show 0 < _; omega) | (show 1 < _; omega) | (show 2 < _; omega) | (show 3 < _; omega) | (intro _ _; rfl) | (intro q hq; match q, hq with | 0, _ => rfl) | (unfold inR; (try simp only [Int.ofNat_eq_natCast]); omega)) ?_)) ?_
      first | refine VSt.splitO 161 rfl (fun q2 => ?_) (fun q2 => ?_) | refine VSt.splitD 161 rfl (fun q2 => ?_) (fun q2 => ?_)
      · refine VSt.go tb_ok false [] 200 rfl (by repeat (first | exact AllP.n | refine AllP.c (by first | assumption | rfl | omega | exact Nat.le_refl _ | (show 0 < _; omega) | (show 1 < _; omega) | (show 2 < _; omega) | (show 3 < _; omega) | (intro _ _; rfl) | (intro q hq; match q, hq with | 0, _ => rfl) | (unfold inR; (try simp only [Int.ofNat_eq_natCast]); omega)) ?_)) ?_
        first | refine VSt.pc rfl rfl rfl rfl rfl rfl rfl rfl ((VP.hook rfl)) ?_ | refine VSt.pcD rfl rfl rfl rfl rfl rfl rfl rfl ((VP.hook rfl)) ?_
        refine VSt.go tb_ok false [] 200 rfl (by repeat (first | exact AllP.n | refine AllP.c (by first | assumption | rfl | omega | exact Nat.le_refl _ | (show 0 < _; omega) | (show 1 < _; omega) | (show 2 < _; omega) | (show 3 < _; omega) | (intro _ _; rfl) | (intro q hq; match q, hq with | 0, _ => rfl) | (unfold inR; (try simp only [Int.ofNat_eq_natCast]); omega)) ?_)) ?_
        exact EndsP.mk rfl rfl rfl rfl
      have h7 : s.copies.length < 7 := by
        have q3 : (Int.ofNat s.copies.length == 7) = false := q2
        have q4 : ¬ Int.ofNat s.copies.length = 7 := by simpa using q3
        simp only [Int.ofNat_eq_natCast] at q4
        omega
      refine VSt.go tb_ok false [] 200 rfl (by repeat (first | exact AllP.n | refine AllP.c (by first | assumption | rfl | omega | exact Nat.le_refl _ | (show 0 < _; omega) | (show 1 < _; omega) | (show 2 < _; omega) | (show 3 < _; omega) | (intro _ _; rfl) | (intro q hq; match q, hq with | 0, _ => rfl) | (unfold inR; (try simp only [Int.ofNat_eq_natCast]); omega)) ?_)) ?_
      refine VSt.cond rfl (fun q3 => absurd q3 (by decide)) (fun _ => ?_)
      refine VSt.go tb_ok false [] 200 rfl (by repeat (first | exact AllP.n | refine AllP.c (by first | assumption | rfl | omega | exact Nat.le_refl _ | (show 0 < _; omega) | (show 1 < _; omega) | (show 2 < _; omega) | (show 3 < _; omega) | (intro _ _; rfl) | (intro q hq; match q, hq with | 0, _ => rfl) | (unfold inR; (try simp only [Int.ofNat_eq_natCast]); omega)) ?_)) ?_
      first | refine VSt.viewC (Vw.kp [2, 5, 9, 14, 167, 168, 169] [(0, 0)] rfl) ?_ | refine VSt.viewO (Vw.kp [2, 5, 9, 14, 167, 168, 169] [(0, 0)] rfl) ?_ | refine VSt.viewD (Vw.kp [2, 5, 9, 14, 167, 168, 169] [(0, 0)] rfl) ?_
      refine VSt.viewC (Vw.freezeC 0 (eStem s) rfl rfl) ?_
      refine VSt.rangeT tb_ok s.copies.length (by omega) [2, 5, 9, 167] (fun m => [(14, iv (mexS s m))]) (fun _ => []) (fun _ => True) rfl rfl rfl (fun _ => rfl) rfl rfl (u0_cons rfl (AImp.refl _) u0_nil) trivial trivial (fun m hm _ => ?_) (fun _ => ?_)
      · have hm1 := (mex_inv hv m (by omega)).1
        have hm2 := (mex_inv hv m (by omega)).2.1
        refine VSt.go tb_ok false [] 200 rfl (by repeat (first | exact AllP.n | refine AllP.c (by first | assumption | rfl | omega | exact Nat.le_refl _ | (show 0 < _; omega) | (show 1 < _; omega) | (show 2 < _; omega) | (show 3 < _; omega) | (intro _ _; rfl) | (intro q hq; match q, hq with | 0, _ => rfl) | (unfold inR; (try simp only [Int.ofNat_eq_natCast]); omega)) ?_)) ?_
        refine VSt.cond rfl (fun q4 => ?_) (fun q4 => ?_)
        · have q4 : ((s.copies.getD m default).id == mexS s m) = true := q4
          have e : mexS s (m + 1) = mexS s m + 1 := by
            show (bif (s.copies.getD m default).id == mexS s m then _ else _) = _
            rw [q4]; rfl
          refine VSt.go tb_ok false [] 200 rfl (by repeat (first | exact AllP.n | refine AllP.c (by first | assumption | rfl | omega | exact Nat.le_refl _ | (show 0 < _; omega) | (show 1 < _; omega) | (show 2 < _; omega) | (show 3 < _; omega) | (intro _ _; rfl) | (intro q hq; match q, hq with | 0, _ => rfl) | (unfold inR; (try simp only [Int.ofNat_eq_natCast]); omega)) ?_)) ?_
          refine ⟨?_, trivial⟩
          dsimp only
          rw [e]
          first | (refine Vw.drop (by repeat (first | exact wf_nil | refine wf_back rfl rfl rfl ?_ | refine wf_cons rfl (by assumption) (ren_only _ (by assumption)) ?_))) | refine Wk.vw (ps := []) ⟨rfl, rfl, (by repeat (first | exact wf_nil | refine wf_back rfl rfl rfl ?_)), _, rfl, (trivial)⟩
        · have q4 : ((s.copies.getD m default).id == mexS s m) = false := q4
          have e : mexS s (m + 1) = mexS s m := by
            show (bif (s.copies.getD m default).id == mexS s m then _ else _) = _
            rw [q4]; rfl
          refine VSt.go tb_ok false [] 200 rfl (by repeat (first | exact AllP.n | refine AllP.c (by first | assumption | rfl | omega | exact Nat.le_refl _ | (show 0 < _; omega) | (show 1 < _; omega) | (show 2 < _; omega) | (show 3 < _; omega) | (intro _ _; rfl) | (intro q hq; match q, hq with | 0, _ => rfl) | (unfold inR; (try simp only [Int.ofNat_eq_natCast]); omega)) ?_)) ?_
          refine ⟨?_, trivial⟩
          dsimp only
          rw [e]
          first | (refine Vw.drop (by repeat (first | exact wf_nil | refine wf_back rfl rfl rfl ?_ | refine wf_cons rfl (by assumption) (ren_only _ (by assumption)) ?_))) | refine Wk.vw (ps := []) ⟨rfl, rfl, (by repeat (first | exact wf_nil | refine wf_back rfl rfl rfl ?_)), _, rfl, (trivial)⟩
      · have hwl := (ckCopy_of (hv.copy hi)).2.1
        have hmi := mex_inv hv s.copies.length (Nat.le_refl _)
        have hck : ckCopy ⟨mexS s s.copies.length, (s.copies.getD i default).words, false⟩ = 0 := ck_id (hv.copy hi) hmi.1 (by have := hmi.2.1; omega)
        have hwp := with_plus h0 hck (mex_place hv) (hv.words hi) h7
        have hpk2 := plus_ck h0 hck (mex_place hv) (by omega) (hv.words hi) h7 hnv
        have hpc := plus_cost (i := i) hE hpk2 hi rfl hnv
        have hwi := pWith_ok (r := r) s ⟨mexS s s.copies.length, (s.copies.getD i default).words, false⟩ hs hf (fun e => Bool.noConfusion e) (by show (s.copies.getD i default).words.length < _; omega)
        have hso := withS_ok (c := ⟨mexS s s.copies.length, (s.copies.getD i default).words, false⟩) hs (by show (s.copies.getD i default).words.length < _; omega)
        rw [hwp.1, hwp.2] at hwi
        rw [hwp.2] at hso
        have hfd := Fewest_ok (r := r) hso
        rw [if_pos hpc.1, hpc.1, hpc.2] at hfd
        refine VSt.go tb_ok false [191] 200 rfl (by repeat (first | exact AllP.n | refine AllP.c (by first | assumption | rfl | omega | exact Nat.le_refl _ | (show 0 < _; omega) | (show 1 < _; omega) | (show 2 < _; omega) | (show 3 < _; omega) | (intro _ _; rfl) | (intro q hq; match q, hq with | 0, _ => rfl) | (unfold inR; (try simp only [Int.ofNat_eq_natCast]); omega)) ?_)) ?_
        refine VSt.dropK 1 ?_
        refine VSt.viewD (Vw.freeze 1 rfl rfl ⟨Nat.le_of_eq (Nat.zero_add _), Nat.le_refl _, rfl⟩) ?_
        first | refine VSt.putO 190 (.p (eInts false (s.copies.getD i default).words)) rfl (words_imp fun k hk => by rw [Nat.zero_add]; rfl) ?_ | refine VSt.putD 190 (.p (eInts false (s.copies.getD i default).words)) rfl (words_imp fun k hk => by rw [Nat.zero_add]; rfl) ?_ | refine VSt.putC 190 (.p (eInts false (s.copies.getD i default).words)) rfl (words_imp fun k hk => by rw [Nat.zero_add]; rfl) ?_
        refine VSt.go tb_ok false [] 200 rfl (by repeat (first | exact AllP.n | refine AllP.c (by first | assumption | rfl | omega | exact Nat.le_refl _ | (show 0 < _; omega) | (show 1 < _; omega) | (show 2 < _; omega) | (show 3 < _; omega) | (intro _ _; rfl) | (intro q hq; match q, hq with | 0, _ => rfl) | (unfold inR; (try simp only [Int.ofNat_eq_natCast]); omega)) ?_)) ?_
        first | refine VSt.pc rfl rfl rfl rfl rfl rfl rfl rfl (hwi) ?_ | refine VSt.pcD rfl rfl rfl rfl rfl rfl rfl rfl (hwi) ?_
        refine VSt.go tb_ok false [] 200 rfl (by repeat (first | exact AllP.n | refine AllP.c (by first | assumption | rfl | omega | exact Nat.le_refl _ | (show 0 < _; omega) | (show 1 < _; omega) | (show 2 < _; omega) | (show 3 < _; omega) | (intro _ _; rfl) | (intro q hq; match q, hq with | 0, _ => rfl) | (unfold inR; (try simp only [Int.ofNat_eq_natCast]); omega)) ?_)) ?_
        first | refine VSt.pc rfl rfl rfl rfl rfl rfl rfl rfl (hfd) ?_ | refine VSt.pcD rfl rfl rfl rfl rfl rfl rfl rfl (hfd) ?_
        refine VSt.go tb_ok false [] 200 rfl (by repeat (first | exact AllP.n | refine AllP.c (by first | assumption | rfl | omega | exact Nat.le_refl _ | (show 0 < _; omega) | (show 1 < _; omega) | (show 2 < _; omega) | (show 3 < _; omega) | (intro _ _; rfl) | (intro q hq; match q, hq with | 0, _ => rfl) | (unfold inR; (try simp only [Int.ofNat_eq_natCast]); omega)) ?_)) ?_
        first | refine VSt.splitO 202 rfl (fun b1 => ?_) (fun b1 => ?_) | refine VSt.splitD 202 rfl (fun b1 => ?_) (fun b1 => ?_)
        rotate_left
        · exact absurd b1 (by decide)
        refine VSt.go tb_ok false [] 200 rfl (by repeat (first | exact AllP.n | refine AllP.c (by first | assumption | rfl | omega | exact Nat.le_refl _ | (show 0 < _; omega) | (show 1 < _; omega) | (show 2 < _; omega) | (show 3 < _; omega) | (intro _ _; rfl) | (intro q hq; match q, hq with | 0, _ => rfl) | (unfold inR; (try simp only [Int.ofNat_eq_natCast]); omega)) ?_)) ?_
        first | refine VSt.splitO 206 rfl (fun b2 => ?_) (fun b2 => ?_) | refine VSt.splitD 206 rfl (fun b2 => ?_) (fun b2 => ?_)
        rotate_left
        · exact absurd b2 (by decide)
        refine VSt.go tb_ok false [] 200 rfl (by repeat (first | exact AllP.n | refine AllP.c (by first | assumption | rfl | omega | exact Nat.le_refl _ | (show 0 < _; omega) | (show 1 < _; omega) | (show 2 < _; omega) | (show 3 < _; omega) | (intro _ _; rfl) | (intro q hq; match q, hq with | 0, _ => rfl) | (unfold inR; (try simp only [Int.ofNat_eq_natCast]); omega)) ?_)) ?_
        first | refine VSt.splitO 211 rfl (fun b3 => ?_) (fun b3 => ?_) | refine VSt.splitD 211 rfl (fun b3 => ?_) (fun b3 => ?_)
        rotate_left
        · have b3 : ((searchS s).cost == (searchS s).cost) = false := b3
          rw [beq_self_eq_true] at b3
          exact absurd b3 (by decide)
        refine VSt.go tb_ok false [] 200 rfl (by repeat (first | exact AllP.n | refine AllP.c (by first | assumption | rfl | omega | exact Nat.le_refl _ | (show 0 < _; omega) | (show 1 < _; omega) | (show 2 < _; omega) | (show 3 < _; omega) | (intro _ _; rfl) | (intro q hq; match q, hq with | 0, _ => rfl) | (unfold inR; (try simp only [Int.ofNat_eq_natCast]); omega)) ?_)) ?_
        first | refine VSt.pc rfl rfl rfl rfl rfl rfl rfl rfl ((VP.hook rfl)) ?_ | refine VSt.pcD rfl rfl rfl rfl rfl rfl rfl rfl ((VP.hook rfl)) ?_
        refine VSt.go tb_ok false [] 200 rfl (by repeat (first | exact AllP.n | refine AllP.c (by first | assumption | rfl | omega | exact Nat.le_refl _ | (show 0 < _; omega) | (show 1 < _; omega) | (show 2 < _; omega) | (show 3 < _; omega) | (intro _ _; rfl) | (intro q hq; match q, hq with | 0, _ => rfl) | (unfold inR; (try simp only [Int.ofNat_eq_natCast]); omega)) ?_)) ?_
        exact EndsP.mk rfl rfl rfl rfl
  · have h45 := (studE_or' h0).resolve_left hE
    rw [if_neg hE, h45] at hfe
    rw [h45, show pedR s = [] from if_neg hE] at hpd
    first | refine VSt.pc rfl rfl rfl rfl rfl rfl rfl rfl (hfe) ?_ | refine VSt.pcD rfl rfl rfl rfl rfl rfl rfl rfl (hfe) ?_
    refine VSt.go tb_ok false [] 200 rfl (by repeat (first | exact AllP.n | refine AllP.c (by first | assumption | rfl | omega | exact Nat.le_refl _ | (show 0 < _; omega) | (show 1 < _; omega) | (show 2 < _; omega) | (show 3 < _; omega) | (intro _ _; rfl) | (intro q hq; match q, hq with | 0, _ => rfl) | (unfold inR; (try simp only [Int.ofNat_eq_natCast]); omega)) ?_)) ?_
    first | refine VSt.pc rfl rfl rfl rfl rfl rfl rfl rfl (hpd) ?_ | refine VSt.pcD rfl rfl rfl rfl rfl rfl rfl rfl (hpd) ?_
    refine VSt.go tb_ok false [] 200 rfl (by repeat (first | exact AllP.n | refine AllP.c (by first | assumption | rfl | omega | exact Nat.le_refl _ | (show 0 < _; omega) | (show 1 < _; omega) | (show 2 < _; omega) | (show 3 < _; omega) | (intro _ _; rfl) | (intro q hq; match q, hq with | 0, _ => rfl) | (unfold inR; (try simp only [Int.ofNat_eq_natCast]); omega)) ?_)) ?_
    first | refine VSt.splitO 44 rfl (fun g1 => ?_) (fun g1 => ?_) | refine VSt.splitD 44 rfl (fun g1 => ?_) (fun g1 => ?_)
    · exact absurd g1 (by decide)
    refine VSt.go tb_ok false [] 200 rfl (by repeat (first | exact AllP.n | refine AllP.c (by first | assumption | rfl | omega | exact Nat.le_refl _ | (show 0 < _; omega) | (show 1 < _; omega) | (show 2 < _; omega) | (show 3 < _; omega) | (intro _ _; rfl) | (intro q hq; match q, hq with | 0, _ => rfl) | (unfold inR; (try simp only [Int.ofNat_eq_natCast]); omega)) ?_)) ?_
    first | refine VSt.splitO 47 rfl (fun g2 => ?_) (fun g2 => ?_) | refine VSt.splitD 47 rfl (fun g2 => ?_) (fun g2 => ?_)
    · exact absurd g2 (by decide)
    refine VSt.go tb_ok false [] 200 rfl (by repeat (first | exact AllP.n | refine AllP.c (by first | assumption | rfl | omega | exact Nat.le_refl _ | (show 0 < _; omega) | (show 1 < _; omega) | (show 2 < _; omega) | (show 3 < _; omega) | (intro _ _; rfl) | (intro q hq; match q, hq with | 0, _ => rfl) | (unfold inR; (try simp only [Int.ofNat_eq_natCast]); omega)) ?_)) ?_
    refine Exists.elim (mod_nat n0 (m := s.copies.length) (by omega)) fun i hi => ?_
    refine Exists.elim (mod_nat n1 (m := s.copies.length - 1) (by omega)) fun j hj => ?_
    refine Exists.elim (mod_nat (Int.ofNat i + 1 + Int.ofNat j) (m := s.copies.length) (by omega)) fun k hk => ?_
    have hm1 := mod_ok (r := r) n0 (m := Int.ofNat s.copies.length) (by simp only [Int.ofNat_eq_natCast]; omega) (by simp only [Int.ofNat_eq_natCast]; omega)
    have hm2 := mod_ok (r := r) n1 (m := Int.ofNat (s.copies.length - 1)) (by simp only [Int.ofNat_eq_natCast]; omega) (by simp only [Int.ofNat_eq_natCast]; omega)
    have hm3 := mod_ok (r := r) (Int.ofNat i + 1 + Int.ofNat j) (m := Int.ofNat s.copies.length) (by simp only [Int.ofNat_eq_natCast]; omega) (by simp only [Int.ofNat_eq_natCast]; omega)
    rw [hi.1] at hm1
    rw [hj.1, show Int.ofNat (s.copies.length - 1) = Int.ofNat s.copies.length - 1 by simp only [Int.ofNat_eq_natCast]; omega] at hm2
    rw [hk.1] at hm3
    have hi := hi.2
    have hj := hj.2
    have hk := hk.2
    refine VSt.go tb_ok false [] 200 rfl (by repeat (first | exact AllP.n | refine AllP.c (by first | assumption | rfl | omega | exact Nat.le_refl _ | (show 0 < _; omega) | (show 1 < _; omega) | (show 2 < _; omega) | (show 3 < _; omega) | (intro _ _; rfl) | (intro q hq; match q, hq with | 0, _ => rfl) | (unfold inR; (try simp only [Int.ofNat_eq_natCast]); omega)) ?_)) ?_
    first | refine VSt.pc rfl rfl rfl rfl rfl rfl rfl rfl (hm1) ?_ | refine VSt.pcD rfl rfl rfl rfl rfl rfl rfl rfl (hm1) ?_
    refine VSt.go tb_ok false [] 200 rfl (by repeat (first | exact AllP.n | refine AllP.c (by first | assumption | rfl | omega | exact Nat.le_refl _ | (show 0 < _; omega) | (show 1 < _; omega) | (show 2 < _; omega) | (show 3 < _; omega) | (intro _ _; rfl) | (intro q hq; match q, hq with | 0, _ => rfl) | (unfold inR; (try simp only [Int.ofNat_eq_natCast]); omega)) ?_)) ?_
    first | refine VSt.pc rfl rfl rfl rfl rfl rfl rfl rfl (hm2) ?_ | refine VSt.pcD rfl rfl rfl rfl rfl rfl rfl rfl (hm2) ?_
    refine VSt.go tb_ok false [] 200 rfl (by repeat (first | exact AllP.n | refine AllP.c (by first | assumption | rfl | omega | exact Nat.le_refl _ | (show 0 < _; omega) | (show 1 < _; omega) | (show 2 < _; omega) | (show 3 < _; omega) | (intro _ _; rfl) | (intro q hq; match q, hq with | 0, _ => rfl) | (unfold inR; (try simp only [Int.ofNat_eq_natCast]); omega)) ?_)) ?_
    first | refine VSt.pc rfl rfl rfl rfl rfl rfl rfl rfl (hm3) ?_ | refine VSt.pcD rfl rfl rfl rfl rfl rfl rfl rfl (hm3) ?_
    refine VSt.go tb_ok false [] 200 rfl (by repeat (first | exact AllP.n | refine AllP.c (by first | assumption | rfl | omega | exact Nat.le_refl _ | (show 0 < _; omega) | (show 1 < _; omega) | (show 2 < _; omega) | (show 3 < _; omega) | (intro _ _; rfl) | (intro q hq; match q, hq with | 0, _ => rfl) | (unfold inR; (try simp only [Int.ofNat_eq_natCast]); omega)) ?_)) ?_
    first | refine VSt.pc rfl rfl rfl rfl rfl rfl rfl rfl ((more_ok (r := r) (b := s.nn) (l := s.never) (n := ⟨idAt s i, idAt s k⟩) (by have := hv.n; omega))) ?_ | refine VSt.pcD rfl rfl rfl rfl rfl rfl rfl rfl ((more_ok (r := r) (b := s.nn) (l := s.never) (n := ⟨idAt s i, idAt s k⟩) (by have := hv.n; omega))) ?_
    have hsm := no_ok hs hv ⟨idAt s i, idAt s k⟩
    have hge := no_ge (n := ⟨idAt s i, idAt s k⟩) h0
    have hfm := Fewest_ok (r := r) hsm
    refine VSt.go tb_ok false [] 200 rfl (by repeat (first | exact AllP.n | refine AllP.c (by first | assumption | rfl | omega | exact Nat.le_refl _ | (show 0 < _; omega) | (show 1 < _; omega) | (show 2 < _; omega) | (show 3 < _; omega) | (intro _ _; rfl) | (intro q hq; match q, hq with | 0, _ => rfl) | (unfold inR; (try simp only [Int.ofNat_eq_natCast]); omega)) ?_)) ?_
    first | refine VSt.pc rfl rfl rfl rfl rfl rfl rfl rfl ((check_ok (noS s ⟨idAt s i, idAt s k⟩) hsm)) ?_ | refine VSt.pcD rfl rfl rfl rfl rfl rfl rfl rfl ((check_ok (noS s ⟨idAt s i, idAt s k⟩) hsm)) ?_
    refine VSt.go tb_ok false [] 200 rfl (by repeat (first | exact AllP.n | refine AllP.c (by first | assumption | rfl | omega | exact Nat.le_refl _ | (show 0 < _; omega) | (show 1 < _; omega) | (show 2 < _; omega) | (show 3 < _; omega) | (intro _ _; rfl) | (intro q hq; match q, hq with | 0, _ => rfl) | (unfold inR; (try simp only [Int.ofNat_eq_natCast]); omega)) ?_)) ?_
    refine VSt.cond rfl (fun hM => ?_) (fun hM => ?_)
    · have hM : ckStem (noS s ⟨idAt s i, idAt s k⟩) = 0 := by have h3 : (ckStem (noS s ⟨idAt s i, idAt s k⟩) == 0) = true := hM; simpa using h3
      refine VSt.go tb_ok false [] 200 rfl (by repeat (first | exact AllP.n | refine AllP.c (by first | assumption | rfl | omega | exact Nat.le_refl _ | (show 0 < _; omega) | (show 1 < _; omega) | (show 2 < _; omega) | (show 3 < _; omega) | (intro _ _; rfl) | (intro q hq; match q, hq with | 0, _ => rfl) | (unfold inR; (try simp only [Int.ofNat_eq_natCast]); omega)) ?_)) ?_
      have hG : ¬ studE (noS s ⟨idAt s i, idAt s k⟩) = 0 := fun hG => hE (hge hG).1
      have h45m := (studE_or' hM).resolve_left hG
      rw [if_neg hG, h45m] at hfm
      first | refine VSt.pc rfl rfl rfl rfl rfl rfl rfl rfl (hfm) ?_ | refine VSt.pcD rfl rfl rfl rfl rfl rfl rfl rfl (hfm) ?_
      refine VSt.go tb_ok false [] 200 rfl (by repeat (first | exact AllP.n | refine AllP.c (by first | assumption | rfl | omega | exact Nat.le_refl _ | (show 0 < _; omega) | (show 1 < _; omega) | (show 2 < _; omega) | (show 3 < _; omega) | (intro _ _; rfl) | (intro q hq; match q, hq with | 0, _ => rfl) | (unfold inR; (try simp only [Int.ofNat_eq_natCast]); omega)) ?_)) ?_
      first | refine VSt.splitO 104 rfl (fun a1 => ?_) (fun a1 => ?_) | refine VSt.splitD 104 rfl (fun a1 => ?_) (fun a1 => ?_)
      · exact absurd a1 (by decide)
      refine VSt.go tb_ok false [] 200 rfl (by repeat (first | exact AllP.n | refine AllP.c (by first | assumption | rfl | omega | exact Nat.le_refl _ | (show 0 < _; omega) | (show 1 < _; omega) | (show 2 < _; omega) | (show 3 < _; omega) | (intro _ _; rfl) | (intro q hq; match q, hq with | 0, _ => rfl) | (unfold inR; (try simp only [Int.ofNat_eq_natCast]); omega)) ?_)) ?_
      first | refine VSt.splitO 116 rfl (fun a4 => ?_) (fun a4 => ?_) | refine VSt.splitD 116 rfl (fun a4 => ?_) (fun a4 => ?_)
      rotate_left
      · exact absurd a4 (by decide)
      refine VSt.go tb_ok false [] 200 rfl (by repeat (first | exact AllP.n | refine AllP.c (by first | assumption | rfl | omega | exact Nat.le_refl _ | (show 0 < _; omega) | (show 1 < _; omega) | (show 2 < _; omega) | (show 3 < _; omega) | (intro _ _; rfl) | (intro q hq; match q, hq with | 0, _ => rfl) | (unfold inR; (try simp only [Int.ofNat_eq_natCast]); omega)) ?_)) ?_
      refine VSt.cond rfl (fun a5 => absurd a5 (by decide)) (fun _ => ?_)
      refine VSt.go tb_ok false [] 200 rfl (by repeat (first | exact AllP.n | refine AllP.c (by first | assumption | rfl | omega | exact Nat.le_refl _ | (show 0 < _; omega) | (show 1 < _; omega) | (show 2 < _; omega) | (show 3 < _; omega) | (intro _ _; rfl) | (intro q hq; match q, hq with | 0, _ => rfl) | (unfold inR; (try simp only [Int.ofNat_eq_natCast]); omega)) ?_)) ?_
      first | refine VSt.splitO 123 rfl (fun a5 => ?_) (fun a5 => ?_) | refine VSt.splitD 123 rfl (fun a5 => ?_) (fun a5 => ?_)
      · exact absurd a5 (by decide)
      refine VSt.go tb_ok false [] 200 rfl (by repeat (first | exact AllP.n | refine AllP.c (by first | assumption | rfl | omega | exact Nat.le_refl _ | (show 0 < _; omega) | (show 1 < _; omega) | (show 2 < _; omega) | (show 3 < _; omega) | (intro _ _; rfl) | (intro q hq; match q, hq with | 0, _ => rfl) | (unfold inR; (try simp only [Int.ofNat_eq_natCast]); omega)) ?_)) ?_
      first | refine VSt.splitO 155 rfl (fun q1 => ?_) (fun q1 => ?_) | refine VSt.splitD 155 rfl (fun q1 => ?_) (fun q1 => ?_)
      · refine VSt.go tb_ok false [] 200 rfl (by repeat (first | exact AllP.n | refine AllP.c (by first | assumption | rfl | omega | exact Nat.le_refl _ | (show 0 < _; omega) | (show 1 < _; omega) | (show 2 < _; omega) | (show 3 < _; omega) | (intro _ _; rfl) | (intro q hq; match q, hq with | 0, _ => rfl) | (unfold inR; (try simp only [Int.ofNat_eq_natCast]); omega)) ?_)) ?_
        first | refine VSt.pc rfl rfl rfl rfl rfl rfl rfl rfl ((VP.hook rfl)) ?_ | refine VSt.pcD rfl rfl rfl rfl rfl rfl rfl rfl ((VP.hook rfl)) ?_
        refine VSt.go tb_ok false [] 200 rfl (by repeat (first | exact AllP.n | refine AllP.c (by first | assumption | rfl | omega | exact Nat.le_refl _ | (show 0 < _; omega) | (show 1 < _; omega) | (show 2 < _; omega) | (show 3 < _; omega) | (intro _ _; rfl) | (intro q hq; match q, hq with | 0, _ => rfl) | (unfold inR; (try simp only [Int.ofNat_eq_natCast]); omega)) ?_)) ?_
        exact EndsP.mk rfl rfl rfl rfl
      refine VSt.go tb_ok false [] 200 rfl (by repeat (first | exact AllP.n | refine AllP.c (by first | assumption | rfl | omega | exact Nat.le_refl _ | (show 0 < _; omega) | (show 1 < _; omega) | (show 2 < _; omega) | (show 3 < _; omega) | (intro _ _; rfl) | (intro q hq; match q, hq with | 0, _ => rfl) | (unfold inR; (try simp only [Int.ofNat_eq_natCast]); omega)) ?_)) ?_
      first | refine VSt.splitO 161 rfl (fun q2 => ?_) (fun q2 => ?_) | refine VSt.splitD 161 rfl (fun q2 => ?_) (fun q2 => ?_)
      · refine VSt.go tb_ok false [] 200 rfl (by repeat (first | exact AllP.n | refine AllP.c (by first | assumption | rfl | omega | exact Nat.le_refl _ | (show 0 < _; omega) | (show 1 < _; omega) | (show 2 < _; omega) | (show 3 < _; omega) | (intro _ _; rfl) | (intro q hq; match q, hq with | 0, _ => rfl) | (unfold inR; (try simp only [Int.ofNat_eq_natCast]); omega)) ?_)) ?_
        first | refine VSt.pc rfl rfl rfl rfl rfl rfl rfl rfl ((VP.hook rfl)) ?_ | refine VSt.pcD rfl rfl rfl rfl rfl rfl rfl rfl ((VP.hook rfl)) ?_
        refine VSt.go tb_ok false [] 200 rfl (by repeat (first | exact AllP.n | refine AllP.c (by first | assumption | rfl | omega | exact Nat.le_refl _ | (show 0 < _; omega) | (show 1 < _; omega) | (show 2 < _; omega) | (show 3 < _; omega) | (intro _ _; rfl) | (intro q hq; match q, hq with | 0, _ => rfl) | (unfold inR; (try simp only [Int.ofNat_eq_natCast]); omega)) ?_)) ?_
        exact EndsP.mk rfl rfl rfl rfl
      refine VSt.go tb_ok false [] 200 rfl (by repeat (first | exact AllP.n | refine AllP.c (by first | assumption | rfl | omega | exact Nat.le_refl _ | (show 0 < _; omega) | (show 1 < _; omega) | (show 2 < _; omega) | (show 3 < _; omega) | (intro _ _; rfl) | (intro q hq; match q, hq with | 0, _ => rfl) | (unfold inR; (try simp only [Int.ofNat_eq_natCast]); omega)) ?_)) ?_
      refine VSt.cond rfl (fun _ => ?_) (fun q3 => absurd q3 (by decide))
      refine VSt.go tb_ok false [] 200 rfl (by repeat (first | exact AllP.n | refine AllP.c (by first | assumption | rfl | omega | exact Nat.le_refl _ | (show 0 < _; omega) | (show 1 < _; omega) | (show 2 < _; omega) | (show 3 < _; omega) | (intro _ _; rfl) | (intro q hq; match q, hq with | 0, _ => rfl) | (unfold inR; (try simp only [Int.ofNat_eq_natCast]); omega)) ?_)) ?_
      first | refine VSt.pc rfl rfl rfl rfl rfl rfl rfl rfl ((VP.hook rfl)) ?_ | refine VSt.pcD rfl rfl rfl rfl rfl rfl rfl rfl ((VP.hook rfl)) ?_
      refine VSt.go tb_ok false [] 200 rfl (by repeat (first | exact AllP.n | refine AllP.c (by first | assumption | rfl | omega | exact Nat.le_refl _ | (show 0 < _; omega) | (show 1 < _; omega) | (show 2 < _; omega) | (show 3 < _; omega) | (intro _ _; rfl) | (intro q hq; match q, hq with | 0, _ => rfl) | (unfold inR; (try simp only [Int.ofNat_eq_natCast]); omega)) ?_)) ?_
      exact EndsP.mk rfl rfl rfl rfl
    · refine VSt.go tb_ok false [] 200 rfl (by repeat (first | exact AllP.n | refine AllP.c (by first | assumption | rfl | omega | exact Nat.le_refl _ | (show 0 < _; omega) | (show 1 < _; omega) | (show 2 < _; omega) | (show 3 < _; omega) | (intro _ _; rfl) | (intro q hq; match q, hq with | 0, _ => rfl) | (unfold inR; (try simp only [Int.ofNat_eq_natCast]); omega)) ?_)) ?_
      first | refine VSt.splitO 155 rfl (fun q1 => ?_) (fun q1 => ?_) | refine VSt.splitD 155 rfl (fun q1 => ?_) (fun q1 => ?_)
      · refine VSt.go tb_ok false [] 200 rfl (by repeat (first | exact AllP.n | refine AllP.c (by first | assumption | rfl | omega | exact Nat.le_refl _ | (show 0 < _; omega) | (show 1 < _; omega) | (show 2 < _; omega) | (show 3 < _; omega) | (intro _ _; rfl) | (intro q hq; match q, hq with | 0, _ => rfl) | (unfold inR; (try simp only [Int.ofNat_eq_natCast]); omega)) ?_)) ?_
        first | refine VSt.pc rfl rfl rfl rfl rfl rfl rfl rfl ((VP.hook rfl)) ?_ | refine VSt.pcD rfl rfl rfl rfl rfl rfl rfl rfl ((VP.hook rfl)) ?_
        refine VSt.go tb_ok false [] 200 rfl (by repeat (first | exact AllP.n | refine AllP.c (by first | assumption | rfl | omega | exact Nat.le_refl _ | (show 0 < _; omega) | (show 1 < _; omega) | (show 2 < _; omega) | (show 3 < _; omega) | (intro _ _; rfl) | (intro q hq; match q, hq with | 0, _ => rfl) | (unfold inR; (try simp only [Int.ofNat_eq_natCast]); omega)) ?_)) ?_
        exact EndsP.mk rfl rfl rfl rfl
      refine VSt.go tb_ok false [] 200 rfl (by repeat (first | exact AllP.n | refine AllP.c (by first | assumption | rfl | omega | exact Nat.le_refl _ | (show 0 < _; omega) | (show 1 < _; omega) | (show 2 < _; omega) | (show 3 < _; omega) | (intro _ _; rfl) | (intro q hq; match q, hq with | 0, _ => rfl) | (unfold inR; (try simp only [Int.ofNat_eq_natCast]); omega)) ?_)) ?_
      first | refine VSt.splitO 161 rfl (fun q2 => ?_) (fun q2 => ?_) | refine VSt.splitD 161 rfl (fun q2 => ?_) (fun q2 => ?_)
      · refine VSt.go tb_ok false [] 200 rfl (by repeat (first | exact AllP.n | refine AllP.c (by first | assumption | rfl | omega | exact Nat.le_refl _ | (show 0 < _; omega) | (show 1 < _; omega) | (show 2 < _; omega) | (show 3 < _; omega) | (intro _ _; rfl) | (intro q hq; match q, hq with | 0, _ => rfl) | (unfold inR; (try simp only [Int.ofNat_eq_natCast]); omega)) ?_)) ?_
        first | refine VSt.pc rfl rfl rfl rfl rfl rfl rfl rfl ((VP.hook rfl)) ?_ | refine VSt.pcD rfl rfl rfl rfl rfl rfl rfl rfl ((VP.hook rfl)) ?_
        refine VSt.go tb_ok false [] 200 rfl (by repeat (first | exact AllP.n | refine AllP.c (by first | assumption | rfl | omega | exact Nat.le_refl _ | (show 0 < _; omega) | (show 1 < _; omega) | (show 2 < _; omega) | (show 3 < _; omega) | (intro _ _; rfl) | (intro q hq; match q, hq with | 0, _ => rfl) | (unfold inR; (try simp only [Int.ofNat_eq_natCast]); omega)) ?_)) ?_
        exact EndsP.mk rfl rfl rfl rfl
      refine VSt.go tb_ok false [] 200 rfl (by repeat (first | exact AllP.n | refine AllP.c (by first | assumption | rfl | omega | exact Nat.le_refl _ | (show 0 < _; omega) | (show 1 < _; omega) | (show 2 < _; omega) | (show 3 < _; omega) | (intro _ _; rfl) | (intro q hq; match q, hq with | 0, _ => rfl) | (unfold inR; (try simp only [Int.ofNat_eq_natCast]); omega)) ?_)) ?_
      refine VSt.cond rfl (fun _ => ?_) (fun q3 => absurd q3 (by decide))
      refine VSt.go tb_ok false [] 200 rfl (by repeat (first | exact AllP.n | refine AllP.c (by first | assumption | rfl | omega | exact Nat.le_refl _ | (show 0 < _; omega) | (show 1 < _; omega) | (show 2 < _; omega) | (show 3 < _; omega) | (intro _ _; rfl) | (intro q hq; match q, hq with | 0, _ => rfl) | (unfold inR; (try simp only [Int.ofNat_eq_natCast]); omega)) ?_)) ?_
      first | refine VSt.pc rfl rfl rfl rfl rfl rfl rfl rfl ((VP.hook rfl)) ?_ | refine VSt.pcD rfl rfl rfl rfl rfl rfl rfl rfl ((VP.hook rfl)) ?_
      refine VSt.go tb_ok false [] 200 rfl (by repeat (first | exact AllP.n | refine AllP.c (by first | assumption | rfl | omega | exact Nat.le_refl _ | (show 0 < _; omega) | (show 1 < _; omega) | (show 2 < _; omega) | (show 3 < _; omega) | (intro _ _; rfl) | (intro q hq; match q, hq with | 0, _ => rfl) | (unfold inR; (try simp only [Int.ofNat_eq_natCast]); omega)) ?_)) ?_
      exact EndsP.mk rfl rfl rfl rfl
end Go.Proofs.YtncpeobcgmkkbaaGreat
