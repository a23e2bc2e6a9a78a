/- The program's StemPedigrees returns true for every stem and every list of numbers, valid or not, without an exception and without changing its arguments: a part of the proof. -/
import Derived.Test.YtncpeobcgmkkbaaGreatVq
import Derived.Test.YtncpeobcgmkkbaaGreatVp
set_option linter.all false
/- Walks: the reference's fewest, known, Fewest. -/
set_option maxRecDepth 100000
namespace Go.Proofs.YtncpeobcgmkkbaaGreat
variable {r : Tr (List Value × TypeId)}
theorem refC_bd {s : Stem} (hv : s.Valid) (i k : Nat) : 0 ≤ refC s i k ∧ refC s i k ≤ farZ := by
  refine ⟨refC_ge hv i k, ?_⟩
  unfold refC
  split
  · rename_i h
    rw [cellM_cost h.2.2]
    have := (costI_bd hv (i := i) (k := k) h.1).2
    unfold farZ; omega
  · exact Int.le_refl _
theorem resC_bd {s : Stem} (hv : s.Valid) (A : Nat → Nat → Bool) (i k : Nat) : 0 ≤ resC (refC s) A i k ∧ resC (refC s) A i k ≤ farZ := by
  unfold resC
  cases A i k with
  | true => exact refC_bd hv i k
  | false => exact ⟨by show (0 : Int) ≤ farZ; decide, Int.le_refl _⟩
theorem onlyC_bd {c : Nat → Nat → Int} (hc : ∀ i k, 0 ≤ c i k ∧ c i k ≤ farZ) (P : Int) (k i j : Nat) : 0 ≤ onlyC c P k i j ∧ onlyC c P k i j ≤ farZ := by
  unfold onlyC
  cases (Nat.beq j k && !(Int.ofNat i == P)) with
  | true => exact ⟨by show (0 : Int) ≤ farZ; decide, Int.le_refl _⟩
  | false => exact hc i j
theorem fewest_ok {n : Nat} {c : Nat → Nat → Int} (hn : n ≤ 7) (hc : ∀ i k, 0 ≤ c i k ∧ c i k ≤ farZ) :
    VP (sE r) 56 [treeV n c] (iv (fewM c n)) := by
  refine VP.of (fn := Tryz.f56) tb_ok rfl (by kernel_rfl) rfl rfl rfl ?_
  refine VSt.go tb_ok false [] 200 rfl AllP.n ?_
  refine VSt.pc rfl rfl rfl rfl rfl rfl rfl rfl ((Least_ok hn hc)) ?_
  refine VSt.go tb_ok false [] 200 rfl AllP.n ?_
  refine VSt.viewC (Vw.kp [3, 7, 8, 9] [] rfl) ?_
  refine VSt.rangeT tb_ok n (by omega) [7] (fun k => [(3, iv (fewF (leastM c n) k))]) (fun _ => []) (fun _ => True) rfl rfl rfl (fun _ => rfl) rfl rfl (u0_cons rfl (AImp.refl _) u0_nil) trivial trivial (fun k hk _ => ?_) (fun _ => ?_)
  · refine VSt.go tb_ok false [] 200 rfl (AllP.c (by assumption) (AllP.c rfl AllP.n)) ?_
    refine ⟨?_, trivial⟩
    refine Wk.vw (ps := []) ⟨rfl, rfl, (by repeat (first | exact wf_nil | refine wf_back rfl rfl rfl ?_)), _, rfl, (trivial)⟩
  · refine VSt.go tb_ok false [] 200 rfl AllP.n ?_
    exact EndsP.mk rfl rfl rfl rfl
def knownT (s : Stem) : AV := if studE s = 0 then treeV s.copies.length (refC s) else .agg [.p nilP]
def knownN (s : Stem) : Int := if studE s = 0 then (searchS s).cost else 0
theorem knownT_only (s : Stem) : AV.only (fun _ => false) (knownT s) = true := by
  unfold knownT
  split <;> rfl
theorem known_ok {s : Stem} (hs : s.Ok) : VP (sE r) 53 [.agg ((eStem s).map .p)] (.tup [knownT s, iv (knownN s), iv (studE s)]) := by
  have ho : AV.only (fun _ => false) (.tup [knownT s, iv (knownN s), iv (studE s)]) = true := by
    show (AV.only (fun _ => false) (knownT s) && _) = true
    rw [knownT_only]; rfl
  refine VP.of (fn := Tryz.f53) tb_ok rfl (by kernel_rfl) rfl rfl ho ?_
  refine VSt.go tb_ok false [] 200 rfl AllP.n ?_
  refine VSt.pc rfl rfl rfl rfl rfl rfl rfl rfl ((rCheck_ok s hs)) ?_
  refine VSt.go tb_ok false [] 200 rfl AllP.n ?_
  refine VSt.cond rfl (fun h => ?_) (fun h => ?_)
  · have h : (!(ckStem s == 0)) = true := h
    have h0 : ¬ ckStem s = 0 := by simpa using h
    have e : studE s = ckStem s := if_neg h0
    refine VSt.go tb_ok false [] 200 rfl AllP.n ?_
    refine ⟨rfl, _, rfl, rfl, ?_⟩
    rw [show knownT s = .agg [.p nilP] from if_neg (by rw [e]; exact h0), show knownN s = 0 from if_neg (by rw [e]; exact h0), e]
    exact AImp.refl _
  · have h : (!(ckStem s == 0)) = false := h
    have h0 : ckStem s = 0 := by simpa using h
    have hv := valid_of h0
    refine VSt.go tb_ok false [] 200 rfl AllP.n ?_
    refine VSt.pc rfl rfl rfl rfl rfl rfl rfl rfl ((TreeOf_ok hs hv)) ?_
    refine VSt.go tb_ok false [] 200 rfl AllP.n ?_
    refine VSt.pc rfl rfl rfl rfl rfl rfl rfl rfl ((fewest_ok hv.c (refC_bd hv))) ?_
    refine VSt.go tb_ok false [] 200 rfl AllP.n ?_
    by_cases h2 : (searchS s).least = []
    · have e : studE s = 45 := by unfold studE; rw [if_pos h0, if_pos h2]
      have ef := few_none hv h2
      refine VSt.cond rfl (fun h3 => ?_) (fun h3 => ?_)
      · refine VSt.go tb_ok false [] 200 rfl AllP.n ?_
        refine ⟨rfl, _, rfl, rfl, ?_⟩
        rw [show knownT s = .agg [.p nilP] from if_neg (by rw [e]; decide), show knownN s = 0 from if_neg (by rw [e]; decide), e]
        exact AImp.refl _
      · have h3 : decide (1000000 ≤ fewM (refC s) s.copies.length) = false := h3
        rw [ef] at h3; exact absurd h3 (by decide)
    · have e : studE s = 0 := by unfold studE; rw [if_pos h0, if_neg h2]
      have ef := few_all hv h2
      have hf := cost_far hv h2
      refine VSt.cond rfl (fun h3 => ?_) (fun h3 => ?_)
      · have h3 : decide (1000000 ≤ fewM (refC s) s.copies.length) = true := h3
        have h3 := of_decide_eq_true h3
        rw [ef] at h3
        unfold farZ at hf
        omega
      · refine VSt.go tb_ok false [] 200 rfl AllP.n ?_
        refine ⟨rfl, _, rfl, rfl, ?_⟩
        rw [show knownT s = treeV s.copies.length (refC s) from if_pos e, show knownN s = (searchS s).cost from if_pos e, e, ef]
        exact AImp.refl _
theorem rFewest_ok {s : Stem} (hs : s.Ok) : VP (sE r) 9 [.agg ((eStem s).map .p)] (.tup [iv (knownN s), iv (studE s)]) := by
  have hk := known_ok (r := r) hs
  refine VP.of (fn := Tryz.f9) tb_ok rfl (by kernel_rfl) rfl rfl rfl ?_
  refine VSt.go tb_ok false [] 200 rfl AllP.n ?_
  by_cases h : studE s = 0
  · rw [show knownT s = treeV s.copies.length (refC s) from if_pos h] at hk
    refine VSt.pc rfl rfl rfl rfl rfl rfl rfl rfl (hk) ?_
    refine VSt.go tb_ok false [] 200 rfl AllP.n ?_
    exact EndsP.mk rfl rfl rfl rfl
  · rw [show knownT s = .agg [.p nilP] from if_neg h] at hk
    refine VSt.pc rfl rfl rfl rfl rfl rfl rfl rfl (hk) ?_
    refine VSt.go tb_ok false [] 200 rfl AllP.n ?_
    exact EndsP.mk rfl rfl rfl rfl
end Go.Proofs.YtncpeobcgmkkbaaGreat
/- Walks: the reference's CheckPedigree, CostOf. -/
set_option maxRecDepth 100000
namespace Go.Proofs.YtncpeobcgmkkbaaGreat
variable {r : Tr (List Value × TypeId)}
theorem good_zero {s : Stem} (hv : s.Valid) {l : List Int} {k : Nat} (hk : badP s l k = false) : (l.getD k 0 == 0) = decide (parF s l k < 0) := by
  cases h : l.getD k 0 == 0 with
  | true =>
    have h : l.getD k 0 = 0 := by simpa using h
    have h1 := place_zero hv
    unfold parF
    rw [h, decide_eq_true h1]
  | false =>
    unfold badP at hk
    rw [h] at hk
    have h1 : decide (parF s l k < 0) = false := by
      cases hd : decide (parF s l k < 0) with
      | false => rfl
      | true => rw [hd] at hk; exact absurd hk (by simp)
    rw [h1]
open Classical in
set_option maxHeartbeats 4000000 in
theorem rCheckPed_ok {s : Stem} {b : Bool} {l : List Int} (hs : s.Ok) (hl : l.length < 9223372036854775808) : VP (sE r) 19 [.agg ((eStem s).map .p), .p (eInts b l)] (iv (pedE s l)) := by
  refine VP.of (fn := Tryz.f19) tb_ok rfl (by kernel_rfl) rfl rfl rfl ?_
  refine VSt.go tb_ok false [] 200 rfl AllP.n ?_
  refine VSt.pc rfl rfl rfl rfl rfl rfl rfl rfl ((rCheck_ok s hs)) ?_
  refine VSt.go tb_ok false [] 200 rfl AllP.n ?_
  refine VSt.cond rfl (fun h => ?_) (fun h => ?_)
  · have h : (!(ckStem s == 0)) = true := h
    have h0 : ¬ ckStem s = 0 := by simpa using h
    refine VSt.go tb_ok false [] 200 rfl AllP.n ?_
    refine EndsP.mk rfl rfl rfl ?_
    rw [show pedE s l = ckStem s from if_neg h0]; rfl
  have h : (!(ckStem s == 0)) = false := h
  have h0 : ckStem s = 0 := by simpa using h
  have hv := valid_of h0
  have hn : s.copies.length ≤ 7 := hv.c
  have no : ¬ isPed s l → pedE s l = 43 := fun h => by unfold pedE; rw [if_pos h0, if_neg h]
  refine VSt.go tb_ok false [] 200 rfl AllP.n ?_
  refine VSt.cond rfl (fun h2 => ?_) (fun h2 => ?_)
  · have h2 : (!(Int.ofNat l.length == Int.ofNat s.copies.length)) = true := h2
    have h3 : ¬ l.length = s.copies.length := fun e => by rw [e, beq_self_eq_true] at h2; cases h2
    refine VSt.go tb_ok false [] 200 rfl AllP.n ?_
    refine EndsP.mk rfl rfl rfl ?_
    rw [no fun h => h3 h.1.1]; rfl
  have h2 : (!(Int.ofNat l.length == Int.ofNat s.copies.length)) = false := h2
  have hlen : l.length = s.copies.length := by
    have : Int.ofNat l.length = Int.ofNat s.copies.length := by simpa using h2
    exact Int.ofNat_inj.1 this
  refine VSt.go tb_ok false [] 200 rfl AllP.n ?_
  refine VSt.viewC (Vw.freezeC 0 (eStem s) rfl rfl) ?_
  refine VSt.rangeT tb_ok l.length hl [1, 2, 23] (fun k => [(6, nv (rootsN (parF s l) k))]) (fun _ => []) (fun k => ∀ i, i < k → badP s l i = false) rfl rfl rfl (fun _ => rfl) rfl rfl (u0_cons rfl (AImp.refl _) u0_nil) trivial (fun i hi => absurd hi (Nat.not_lt_zero i)) (fun k hk hg => ?_) (fun hg => ?_)
  · have bad : badP s l k = true → pedE s l = 43 := fun hb => no fun hp => by rw [hp.1.2 k (by omega)] at hb; cases hb
    have ok : badP s l k = false → ∀ i, i < k + 1 → badP s l i = false := fun hb i hi => by
      by_cases e : i = k
      · rw [e]; exact hb
      · exact hg i (by omega)
    have hk2 : k < s.copies.length := by omega
    refine VSt.go tb_ok false [] 200 rfl (AllP.c (by assumption) (AllP.c rfl AllP.n)) ?_
    refine VSt.cond rfl (fun g1 => ?_) (fun g1 => ?_)
    · have g1 : (l.getD k 0 == 0) = true := g1
      have hb : badP s l k = false := by unfold badP; rw [g1]; rfl
      have hz := good_zero hv hb
      rw [g1] at hz
      have hz2 := of_decide_eq_true hz.symm
      have hrl := rootsN_le (parF s l) k
      refine VSt.go tb_ok false [6] 200 rfl (AllP.c (by unfold inR; (try simp only [Int.ofNat_eq_natCast]); omega) AllP.n) ?_
      refine VSt.putO 33 (nv (rootsN (parF s l) (k + 1))) rfl (iv_nv (by rw [rootsN_step, if_pos hz2]; rfl)) ?_
      refine VSt.go tb_ok false [] 200 rfl AllP.n ?_
      refine ⟨?_, ok hb⟩
      refine Wk.vw (ps := []) ⟨rfl, rfl, (by repeat (first | exact wf_nil | refine wf_back rfl rfl rfl ?_)), _, rfl, (trivial)⟩
    · have g1 : (l.getD k 0 == 0) = false := g1
      refine VSt.go tb_ok false [] 200 rfl AllP.n ?_
      refine VSt.pcD rfl rfl rfl rfl rfl rfl rfl rfl ((place_ok s (l.getD k 0) hs.c)) ?_
      refine VSt.go tb_ok false [] 200 rfl AllP.n ?_
      refine VSt.splitD 38 rfl (fun g2 => ?_) (fun g2 => ?_)
      · have g2 : decide (parF s l k < 0) = true := g2
        refine VSt.go tb_ok false [] 200 rfl AllP.n ?_
        refine EndsP.mk rfl rfl rfl ?_
        rw [bad (by unfold badP; rw [g1, g2]; rfl)]; rfl
      have g2 : decide (parF s l k < 0) = false := g2
      refine VSt.go tb_ok false [] 200 rfl AllP.n ?_
      refine VSt.pcD rfl rfl rfl rfl rfl rfl rfl rfl ((place_ok s (l.getD k 0) hs.c)) ?_
      refine VSt.go tb_ok false [] 200 rfl AllP.n ?_
      refine VSt.splitD 45 rfl (fun g3 => ?_) (fun g3 => ?_)
      · have g3 : (parF s l k == Int.ofNat k) = true := g3
        refine VSt.go tb_ok false [] 200 rfl AllP.n ?_
        refine EndsP.mk rfl rfl rfl ?_
        rw [bad (by unfold badP; rw [g1, g2, g3]; rfl)]; rfl
      have g3 : (parF s l k == Int.ofNat k) = false := g3
      refine VSt.go tb_ok false [] 200 rfl (AllP.c (by assumption) (AllP.c rfl AllP.n)) ?_
      refine VSt.pcD rfl rfl rfl rfl rfl rfl rfl rfl ((never_ok s (l.getD k 0) (idAt s k) hs.n)) ?_
      refine VSt.go tb_ok false [] 200 rfl AllP.n ?_
      refine VSt.cond rfl (fun g4 => ?_) (fun g4 => ?_)
      · have g4 : isNever s (l.getD k 0) (idAt s k) = true := g4
        refine VSt.go tb_ok false [] 200 rfl AllP.n ?_
        refine EndsP.mk rfl rfl rfl ?_
        rw [bad (by unfold badP; rw [g1, g2, g3, g4]; rfl)]; rfl
      have g4 : isNever s (l.getD k 0) (idAt s k) = false := g4
      have hb : badP s l k = false := by unfold badP; rw [g1, g2, g3, g4]; rfl
      have hz2 := of_decide_eq_false g2
      refine VSt.putC 6 (nv (rootsN (parF s l) (k + 1))) rfl (iv_nv (by rw [rootsN_step, if_neg hz2]; rfl)) ?_
      refine VSt.go tb_ok false [] 200 rfl AllP.n ?_
      refine ⟨?_, ok hb⟩
      refine Wk.vw (ps := []) ⟨rfl, rfl, (by repeat (first | exact wf_nil | refine wf_back rfl rfl rfl ?_)), _, rfl, (trivial)⟩
  · have hgood : goodP s l := ⟨hlen, fun k hk => hg k (by omega)⟩
    have hlt : ∀ k, parF s l k < s.copies.length := fun k => place_lt s _
    refine VSt.go tb_ok false [] 200 rfl AllP.n ?_
    refine VSt.cond rfl (fun h3 => ?_) (fun h3 => ?_)
    · have h3 : (!(Int.ofNat (rootsN (parF s l) l.length) == 1)) = true := h3
      refine VSt.go tb_ok false [] 200 rfl AllP.n ?_
      refine EndsP.mk rfl rfl rfl ?_
      rw [no fun hp => by
        have h4 := hp.2
        unfold rootedB at h4
        rw [Bool.and_eq_true] at h4
        rw [hlen, h4.2] at h3
        cases h3]; rfl
    have h3 : (!(Int.ofNat (rootsN (parF s l) l.length) == 1)) = false := h3
    have h3 : (Int.ofNat (rootsN (parF s l) s.copies.length) == 1) = true := by rw [← hlen]; simpa using h3
    refine VSt.go tb_ok false [] 200 rfl AllP.n ?_
    refine VSt.rangeT tb_ok l.length hl [1, 2, 59] (fun _ => []) (fun _ => []) (fun k => ∀ i, i < k → parF s l (walkU (parF s l) s.copies.length i) < 0) rfl rfl rfl (fun _ => rfl) rfl rfl u0_nil trivial (fun i hi => absurd hi (Nat.not_lt_zero i)) (fun k hk hg2 => ?_) (fun hg2 => ?_)
    · refine VSt.go tb_ok false [] 200 rfl AllP.n ?_
      refine VSt.loop (α := Nat) (fun j F' L => ∃ a, j ≤ l.length ∧ a < l.length ∧ walkU (parF s l) (s.copies.length - j) a = walkU (parF s l) s.copies.length k ∧ F' = [(1, .p (eInts b l)), (2, .p (.fp (eStem s) 0)), (10, nv a), (11, nv j), (59, .p (eInts b l)), (60, nv l.length), (61, nv k)] ∧ L = []) (fun j => l.length - j) 0 (by refine Wk.vw (ps := []) ⟨rfl, rfl, (by repeat (first | exact wf_nil | refine wf_back rfl rfl rfl ?_)), _, rfl, (trivial)⟩) ⟨k, Nat.zero_le _, hk, rfl, rfl, rfl⟩ ?_
      rintro j F' L ⟨a, hj, ha, hw, rfl, rfl⟩
      have hz := good_zero hv (hg a ha)
      have fin : parF s l a < 0 → ∀ i, i < k + 1 → parF s l (walkU (parF s l) s.copies.length i) < 0 := fun h i hi => by
        by_cases e : i = k
        · subst e
          rw [← hw, walkU_stop (by omega)]; exact h
        · exact hg2 i (by omega)
      have hza : (!(l.getD a 0 == 0)) = !decide (parF s l a < 0) := by rw [hz]
      have hla := hlt a
      refine VSt.go tb_ok false [] 200 rfl AllP.n ?_
      refine VSt.splitO 69 rfl (fun g4 => ?_) (fun g4 => ?_)
      · have g4 : j < l.length := by
          have := of_decide_eq_true (show decide (Int.ofNat j < Int.ofNat l.length) = true from g4)
          simp only [Int.ofNat_eq_natCast] at this; omega
        refine VSt.go tb_ok false [] 200 rfl (AllP.c (by assumption) (AllP.c rfl AllP.n)) ?_
        refine VSt.cond rfl (fun g5 => ?_) (fun g5 => ?_)
        · have g5 : (!(l.getD a 0 == 0)) = true := g5
          have h0a : 0 ≤ parF s l a := by
            rw [hza] at g5
            have := of_decide_eq_false (show decide (parF s l a < 0) = false by simpa using g5)
            omega
          refine VSt.go tb_ok false [] 200 rfl (AllP.c (by assumption) (AllP.c rfl AllP.n)) ?_
          refine VSt.pcD rfl rfl rfl rfl rfl rfl rfl rfl ((place_ok s (l.getD a 0) hs.c)) ?_
          refine VSt.go tb_ok false [10] 200 rfl AllP.n ?_
          refine VSt.putD 83 (nv (parF s l a).toNat) rfl (iv_nv (show parF s l a = _ by simp only [Int.ofNat_eq_natCast]; omega)) ?_
          refine VSt.go tb_ok false [] 200 rfl (AllP.c (by unfold inR; (try simp only [Int.ofNat_eq_natCast]); omega) AllP.n) ?_
          refine ⟨j + 1, _, _, (by refine Wk.vw (ps := []) ⟨rfl, rfl, (by repeat (first | exact wf_nil | refine wf_back rfl rfl rfl ?_)), _, rfl, (trivial)⟩), ⟨(parF s l a).toNat, g4, by omega, ?_, rfl, rfl⟩, by omega⟩
          rw [← hw, show s.copies.length - j = (s.copies.length - (j + 1)) + 1 by omega, walkU_step h0a]
        · have g5 : (!(l.getD a 0 == 0)) = false := g5
          have h0a : parF s l a < 0 := by
            rw [hza] at g5
            exact of_decide_eq_true (show decide (parF s l a < 0) = true by simpa using g5)
          refine VSt.go tb_ok false [] 200 rfl (AllP.c (by assumption) (AllP.c rfl AllP.n)) ?_
          refine VSt.cond rfl (fun g6 => ?_) (fun g6 => ?_)
          · have g6 : (!(l.getD a 0 == 0)) = true := g6
            rw [g5] at g6; cases g6
          · refine VSt.go tb_ok false [] 200 rfl AllP.n ?_
            refine ⟨?_, fin h0a⟩
            refine Wk.vw (ps := []) ⟨rfl, rfl, (by repeat (first | exact wf_nil | refine wf_back rfl rfl rfl ?_)), _, rfl, (trivial)⟩
      · have g4 : ¬ j < l.length := by
          have := of_decide_eq_false (show decide (Int.ofNat j < Int.ofNat l.length) = false from g4)
          simp only [Int.ofNat_eq_natCast] at this; omega
        refine VSt.go tb_ok false [] 200 rfl (AllP.c (by assumption) (AllP.c rfl AllP.n)) ?_
        refine VSt.cond rfl (fun g6 => ?_) (fun g6 => ?_)
        · have g6 : (!(l.getD a 0 == 0)) = true := g6
          have h0a : 0 ≤ parF s l a := by
            rw [hza] at g6
            have := of_decide_eq_false (show decide (parF s l a < 0) = false by simpa using g6)
            omega
          refine VSt.go tb_ok false [] 200 rfl AllP.n ?_
          refine EndsP.mk rfl rfl rfl ?_
          rw [no fun hp => by
            have h5 := rooted_no (n := s.copies.length) (p := parF s l) (i := k) (by omega) (by
              rw [← hw, show s.copies.length - j = 0 by omega]; exact h0a)
            have h6 := hp.2
            rw [h5] at h6
            cases h6]; rfl
        · have g6 : (!(l.getD a 0 == 0)) = false := g6
          have h0a : parF s l a < 0 := by
            rw [hza] at g6
            exact of_decide_eq_true (show decide (parF s l a < 0) = true by simpa using g6)
          refine VSt.go tb_ok false [] 200 rfl AllP.n ?_
          refine ⟨?_, fin h0a⟩
          refine Wk.vw (ps := []) ⟨rfl, rfl, (by repeat (first | exact wf_nil | refine wf_back rfl rfl rfl ?_)), _, rfl, (trivial)⟩
    · refine VSt.go tb_ok false [] 200 rfl AllP.n ?_
      refine EndsP.mk rfl rfl rfl ?_
      have : isPed s l := ⟨hgood, by rw [rooted_yes (fun i hi => hg2 i (by omega)), h3]⟩
      unfold pedE
      rw [if_pos h0, if_pos this]; rfl
theorem pedE_zero {s : Stem} {l : List Int} (hE : pedE s l = 0) : s.Valid ∧ l.length = s.copies.length ∧ (∀ k, k < s.copies.length → badP s l k = false) := by
  obtain ⟨h1, h2, _⟩ := pedE_of hE
  exact ⟨valid_of h1, h2.1, h2.2⟩
open Classical in
theorem rCostOf_ok {s : Stem} {b : Bool} {l : List Int} (hs : s.Ok) (hl : l.length < 9223372036854775808) : VP (sE r) 13 [.agg ((eStem s).map .p), .p (eInts b l)] (.tup [iv (costOfI s l), iv (pedE s l)]) := by
  refine VP.of (fn := Tryz.f13) tb_ok rfl (by kernel_rfl) rfl rfl rfl ?_
  refine VSt.go tb_ok false [] 200 rfl AllP.n ?_
  refine VSt.pc rfl rfl rfl rfl rfl rfl rfl rfl ((rCheckPed_ok hs hl)) ?_
  refine VSt.go tb_ok false [] 200 rfl AllP.n ?_
  refine VSt.cond rfl (fun h => ?_) (fun h => ?_)
  · have h : (!(pedE s l == 0)) = true := h
    have h0 : ¬ pedE s l = 0 := by simpa using h
    refine VSt.go tb_ok false [] 200 rfl AllP.n ?_
    refine EndsP.mk rfl rfl rfl ?_
    rw [show costOfI s l = 0 from if_neg h0]; rfl
  have h : (!(pedE s l == 0)) = false := h
  have h0 : pedE s l = 0 := by simpa using h
  obtain ⟨hv, hlen, hgood⟩ := pedE_zero h0
  have hn : s.copies.length ≤ 7 := hv.c
  have hlt : ∀ k, k < s.copies.length → parF s l k < s.copies.length := fun k _ => place_lt s _
  refine VSt.go tb_ok false [] 200 rfl AllP.n ?_
  refine VSt.viewC (Vw.freezeC 0 (eStem s) rfl rfl) ?_
  refine VSt.rangeT tb_ok l.length hl [1, 2, 16] (fun k => [(7, iv (costP s (parF s l) k))]) (fun _ => []) (fun _ => True) rfl rfl rfl (fun _ => rfl) rfl rfl (u0_cons rfl (AImp.refl _) u0_nil) trivial trivial (fun k hk _ => ?_) (fun _ => ?_)
  · have hk2 : k < s.copies.length := by omega
    have hz := good_zero hv (hgood k hk2)
    have hb := costP_bd hv hlt k (by omega)
    have hlk := hlt k hk2
    refine VSt.go tb_ok false [] 200 rfl (AllP.c (by assumption) (AllP.c rfl AllP.n)) ?_
    refine VSt.cond rfl (fun g1 => ?_) (fun g1 => ?_)
    · have g1 : (!(l.getD k 0 == 0)) = true := g1
      have h0k : 0 ≤ parF s l k := by
        rw [hz] at g1
        have := of_decide_eq_false (show decide (parF s l k < 0) = false by simpa using g1)
        omega
      have hcb := costI_bd hv (i := (parF s l k).toNat) (k := k) (by omega)
      refine VSt.go tb_ok false [] 200 rfl AllP.n ?_
      refine VSt.pcD rfl rfl rfl rfl rfl rfl rfl rfl ((place_ok s (l.getD k 0) hs.c)) ?_
      refine VSt.go tb_ok false [31] 200 rfl AllP.n ?_
      refine VSt.putD 29 (nv (parF s l k).toNat) rfl (iv_nv (show parF s l k = _ by simp only [Int.ofNat_eq_natCast]; omega)) ?_
      refine VSt.go tb_ok false [] 200 rfl AllP.n ?_
      refine VSt.pcD rfl rfl rfl rfl rfl rfl rfl rfl ((rcost_ok hv (i := (parF s l k).toNat) (by omega) hk2)) ?_
      refine VSt.go tb_ok false [7] 200 rfl (AllP.c (by unfold inR; (try simp only [Int.ofNat_eq_natCast]); omega) AllP.n) ?_
      refine VSt.putD 32 (iv (costP s (parF s l) (k + 1))) rfl (iv_eq (costP_kid h0k).symm) ?_
      refine VSt.go tb_ok false [] 200 rfl AllP.n ?_
      refine ⟨?_, trivial⟩
      refine Wk.vw (ps := []) ⟨rfl, rfl, (by repeat (first | exact wf_nil | refine wf_back rfl rfl rfl ?_)), _, rfl, (trivial)⟩
    · have g1 : (!(l.getD k 0 == 0)) = false := g1
      have h0k : parF s l k < 0 := by
        rw [hz] at g1
        exact of_decide_eq_true (show decide (parF s l k < 0) = true by simpa using g1)
      refine VSt.putC 7 (iv (costP s (parF s l) (k + 1))) rfl (iv_eq (costP_root h0k).symm) ?_
      refine VSt.go tb_ok false [] 200 rfl AllP.n ?_
      refine ⟨?_, trivial⟩
      refine Wk.vw (ps := []) ⟨rfl, rfl, (by repeat (first | exact wf_nil | refine wf_back rfl rfl rfl ?_)), _, rfl, (trivial)⟩
  · refine VSt.go tb_ok false [] 200 rfl AllP.n ?_
    refine EndsP.mk rfl rfl rfl ?_
    rw [show costOfI s l = costP s (parF s l) s.copies.length from if_pos h0, h0, hlen]; rfl
end Go.Proofs.YtncpeobcgmkkbaaGreat
/- Walks: the reference's Slips, SameSlips. -/
set_option maxRecDepth 100000
namespace Go.Proofs.YtncpeobcgmkkbaaGreat
variable {r : Tr (List Value × TypeId)}
open Classical in
set_option maxHeartbeats 4000000 in
theorem rSlips_ok {s : Stem} {b : Bool} {l : List Int} (hs : s.Ok) (hl : l.length < 9223372036854775808) : VP (sE r) 15 [.agg ((eStem s).map .p), .p (eInts b l)] (.tup [.p (slipsV s l), iv (pedE s l)]) := by
  refine VP.of (fn := Tryz.f15) tb_ok rfl (by kernel_rfl) rfl rfl rfl ?_
  refine VSt.go tb_ok false [] 200 rfl AllP.n ?_
  refine VSt.pc rfl rfl rfl rfl rfl rfl rfl rfl ((rCheckPed_ok hs hl)) ?_
  refine VSt.go tb_ok false [] 200 rfl AllP.n ?_
  refine VSt.cond rfl (fun h => ?_) (fun h => ?_)
  · have h : (!(pedE s l == 0)) = true := h
    have h0 : ¬ pedE s l = 0 := by simpa using h
    refine VSt.go tb_ok false [] 200 rfl AllP.n ?_
    refine ⟨rfl, _, rfl, rfl, ?_⟩
    rw [show slipsV s l = .lst 0 true 0 fun _ => [] from if_neg h0]
    exact AImp.tup ⟨AImp.nil, AImp.refl _, trivial⟩
  have h : (!(pedE s l == 0)) = false := h
  have h0 : pedE s l = 0 := by simpa using h
  obtain ⟨hv, hlen, hgood⟩ := pedE_zero h0
  have hn : s.copies.length ≤ 7 := hv.c
  have hlt : ∀ k, k < s.copies.length → parF s l k < s.copies.length := fun k _ => place_lt s _
  refine VSt.go tb_ok false [] 200 rfl AllP.n ?_
  refine VSt.viewC (Vw.freezeC 0 (eStem s) rfl rfl) ?_
  refine VSt.viewC (Vw.adopt 1 4 (fSl []) 91 rfl) ?_
  refine VSt.rangeT tb_ok l.length hl [1, 2, 19] (fun k => [(7, .acc true 1 4 (allF s (parF s l) k).length)]) (fun k => [(1, .acc (allF s (parF s l) k).length 4 (fSl (allF s (parF s l) k)) 91)]) (fun _ => True) rfl rfl rfl (fun _ => rfl) rfl rfl (u0_cons rfl AImp.nilAcc u0_nil) (LImp.refl _) trivial (fun k hk _ => ?_) (fun _ => ?_)
  · have hk2 : k < s.copies.length := by omega
    have hz := good_zero hv (hgood k hk2)
    have hlk := hlt k hk2
    refine VSt.go tb_ok false [] 200 rfl (AllP.c (by assumption) (AllP.c rfl AllP.n)) ?_
    refine VSt.cond rfl (fun g1 => ?_) (fun g1 => ?_)
    · have g1 : (l.getD k 0 == 0) = true := g1
      have hd : decide (parF s l k < 0) = true := by rw [← hz]; exact g1
      have e : allF s (parF s l) (k + 1) = allF s (parF s l) k := by rw [allF, hd]; rfl
      refine VSt.go tb_ok false [] 200 rfl AllP.n ?_
      refine ⟨?_, trivial⟩
      dsimp only
      rw [e]
      refine Wk.vw (ps := [(1, 1)]) ⟨rfl, rfl, (by repeat (first | exact wf_nil | refine wf_back rfl rfl rfl ?_)), _, rfl, ((LImp.refl _))⟩
    · have g1 : (l.getD k 0 == 0) = false := g1
      have hd : decide (parF s l k < 0) = false := by rw [← hz]; exact g1
      have h0k := of_decide_eq_false hd
      have hi : (parF s l k).toNat < s.copies.length := by omega
      have hwa := hv.words hi
      have hwb := hv.words hk2
      have hl0 := (ckCopy_of (hv.copy hk2)).2.1
      have hal := allF_len hv (parF s l) k (Nat.le_of_lt hk2)
      have e : allF s (parF s l) (k + 1) = allF s (parF s l) k ++ slipsF s (parF s l k).toNat k (s.copies.getD k default).words.length := by rw [allF, hd]; rfl
      refine VSt.go tb_ok false [] 200 rfl AllP.n ?_
      refine VSt.pcD rfl rfl rfl rfl rfl rfl rfl rfl ((place_ok s (l.getD k 0) hs.c)) ?_
      refine VSt.go tb_ok false [33] 200 rfl AllP.n ?_
      refine VSt.putD 32 (nv (parF s l k).toNat) rfl (iv_nv (show parF s l k = _ by simp only [Int.ofNat_eq_natCast]; omega)) ?_
      refine VSt.go tb_ok false [] 200 rfl (AllP.c (by assumption) (AllP.c rfl (AllP.c (by assumption) (AllP.c rfl AllP.n)))) ?_
      refine VSt.rangeT tb_ok (s.copies.getD k default).words.length (by omega) [1, 2, 8, 10, 19, 20, 21, 41] (fun q => [(7, .acc true 1 4 (allF s (parF s l) k ++ slipsF s (parF s l k).toNat k q).length)]) (fun q => [(1, .acc (allF s (parF s l) k ++ slipsF s (parF s l k).toNat k q).length 4 (fSl (allF s (parF s l) k ++ slipsF s (parF s l k).toNat k q)) 91)]) (fun _ => True) rfl rfl rfl (fun _ => rfl) rfl rfl (u0_cons rfl (AImp.acc (by rw [slipsF, List.append_nil]) (fun _ => rfl)) u0_nil) ⟨rfl, BImp.acc (by rw [slipsF, List.append_nil]) (fun x _ => by rw [slipsF, List.append_nil]), trivial⟩ trivial (fun q hq _ => ?_) (fun _ => ?_)
      · have hqa : q < (s.copies.getD (parF s l k).toNat default).words.length := by omega
        have hsl := slipsF_len s (parF s l k).toNat k q
        have hlen2 : (allF s (parF s l) k ++ slipsF s (parF s l k).toNat k q).length ≤ 1000 := by rw [List.length_append]; omega
        refine VSt.go tb_ok false [] 200 rfl (AllP.c (by assumption) (AllP.c rfl (AllP.c (by assumption) (AllP.c rfl AllP.n)))) ?_
        refine VSt.cond rfl (fun g2 => ?_) (fun g2 => ?_)
        · have g2 : (wd s (parF s l k).toNat q == wd s k q) = false := by
            have : (!(wd s (parF s l k).toNat q == wd s k q)) = true := g2
            simpa using this
          have e3 : allF s (parF s l) k ++ slipsF s (parF s l k).toNat k (q + 1) = (allF s (parF s l) k ++ slipsF s (parF s l k).toNat k q) ++ [⟨idAt s k, q, wd s (parF s l k).toNat q, wd s k q⟩] := by
            rw [slipsF, g2, List.append_assoc]; rfl
          have hN : (allF s (parF s l) k ++ slipsF s (parF s l k).toNat k (q + 1)).length = (allF s (parF s l) k ++ slipsF s (parF s l k).toNat k q).length + 1 := by rw [e3, List.length_append]; rfl
          refine VSt.go tb_ok false [7] 200 rfl (AllP.c (by assumption) (AllP.c rfl (AllP.c (by assumption) (AllP.c rfl (AllP.c (by omega) (AllP.c (by omega) (AllP.c (fun q hq => match q, hq with | 0, _ => rfl) (AllP.c rfl (AllP.c rfl (AllP.c rfl AllP.n)))))))))) ?_
          refine VSt.putD 69 (.acc true 2 4 (allF s (parF s l) k ++ slipsF s (parF s l k).toNat k (q + 1)).length) rfl (AImp.acc hN.symm (fun _ => rfl)) ?_
          refine VSt.go tb_ok false [] 200 rfl AllP.n ?_
          refine ⟨?_, trivial⟩
          refine Wk.vw (ps := [(1, 2)]) ⟨rfl, rfl, (by repeat (first | exact wf_nil | refine wf_back rfl rfl rfl ?_)), _, rfl, (⟨rfl, BImp.acc hN.symm (fun x hx => by rw [e3]; exact app_slip _ ⟨idAt s k, q, wd s (parF s l k).toNat q, wd s k q⟩ x hx), trivial⟩)⟩
        · have g2 : (wd s (parF s l k).toNat q == wd s k q) = true := by
            have : (!(wd s (parF s l k).toNat q == wd s k q)) = false := g2
            simpa using this
          have e3 : slipsF s (parF s l k).toNat k (q + 1) = slipsF s (parF s l k).toNat k q := by rw [slipsF, g2]; rfl
          refine VSt.go tb_ok false [] 200 rfl AllP.n ?_
          refine ⟨?_, trivial⟩
          dsimp only
          rw [e3]
          refine Wk.vw (ps := [(1, 1)]) ⟨rfl, rfl, (by repeat (first | exact wf_nil | refine wf_back rfl rfl rfl ?_)), _, rfl, ((LImp.refl _))⟩
      · refine VSt.go tb_ok false [] 200 rfl AllP.n ?_
        refine ⟨?_, trivial⟩
        dsimp only
        rw [e]
        refine Wk.vw (ps := [(1, 1)]) ⟨rfl, rfl, (by repeat (first | exact wf_nil | refine wf_back rfl rfl rfl ?_)), _, rfl, ((LImp.refl _))⟩
  · refine VSt.go tb_ok false [72] 200 rfl AllP.n ?_
    refine VSt.viewO (Vw.kp [7] [(1, 1)] rfl) ?_
    refine VSt.viewO (Vw.freezeA 1 rfl rfl ⟨Nat.le_refl _, rfl⟩) ?_
    refine VSt.go tb_ok false [] 200 rfl AllP.n ?_
    refine ⟨rfl, _, rfl, rfl, ?_⟩
    have ec : slipsV s l = eSlips (allF s (parF s l) s.copies.length).isEmpty (allF s (parF s l) s.copies.length) := if_pos h0
    rw [ec, h0, ← hlen]
    refine AImp.tup ⟨AImp.of_eq ?_, AImp.refl _, trivial⟩
    show AV.p (.lst _ (true && Nat.beq (allF s (parF s l) l.length).length 0) _ _) = AV.p (eSlips _ _)
    cases allF s (parF s l) l.length <;> rfl
theorem sameSlips_ok {b1 b2 : Bool} {l : List Slip} (hn : l.length < 9223372036854775808) : VP (sE r) 17 [.p (eSlips b1 l), .p (eSlips b2 l)] (bv true) := by
  refine VP.of (fn := Tryz.f17) tb_ok rfl (by kernel_rfl) rfl rfl rfl ?_
  refine VSt.go tb_ok false [] 200 rfl AllP.n ?_
  refine VSt.cond rfl (fun h => ?_) (fun _ => ?_)
  · have h : (!(Int.ofNat l.length == Int.ofNat l.length)) = true := h
    rw [beq_self_eq_true] at h; cases h
  refine VSt.go tb_ok false [] 200 rfl AllP.n ?_
  refine VSt.rangeT tb_ok l.length hn [0, 1] (fun _ => []) (fun _ => []) (fun _ => True) rfl rfl rfl (fun _ => rfl) rfl rfl u0_nil trivial trivial (fun k hk _ => ?_) (fun _ => ?_)
  · refine VSt.go tb_ok false [] 200 rfl (AllP.c (by assumption) (AllP.c rfl (AllP.c (by assumption) (AllP.c rfl AllP.n)))) ?_
    refine VSt.cond rfl (fun h => ?_) (fun _ => ?_)
    · have h : (!(((l.getD k default).copy == (l.getD k default).copy) && ((Int.ofNat (l.getD k default).place == Int.ofNat (l.getD k default).place) && (((l.getD k default).src == (l.getD k default).src) && (((l.getD k default).dst == (l.getD k default).dst) && true))))) = true := h
      simp only [beq_self_eq_true, Bool.and_self, Bool.not_true] at h
      cases h
    · refine VSt.go tb_ok false [] 200 rfl AllP.n ?_
      refine ⟨?_, trivial⟩
      refine Wk.vw (ps := []) ⟨rfl, rfl, (by repeat (first | exact wf_nil | refine wf_back rfl rfl rfl ?_)), _, rfl, (trivial)⟩
  · refine VSt.go tb_ok false [] 200 rfl AllP.n ?_
    exact EndsP.mk rfl rfl rfl rfl
end Go.Proofs.YtncpeobcgmkkbaaGreat
/- Walks: the reference's Pedigree. -/
set_option maxRecDepth 100000
namespace Go.Proofs.YtncpeobcgmkkbaaGreat
variable {r : Tr (List Value × TypeId)}
theorem first_head {s : Stem} (hm : (searchS s).least ≠ []) : ∃ l, (searchS s).least = firstP s :: l := by
  unfold firstP
  cases h : (searchS s).least with
  | nil => exact absurd h hm
  | cons p l => exact ⟨l, rfl⟩
def treeK (s : Stem) (k : Nat) : Nat → Nat → Int := resC (refC s) (allowK (firstP s) k)
def idsF (s : Stem) : Nat → List PV := fInts fun j => idOf s (firstP s j)
def memP (s : Stem) (k : Nat) : VS := [(1, .cells [.p (tabP s.copies.length s.copies.length (treeK s k))] 78), (2, .acc k 1 (idsF s) 3)]
def atM (s : Stem) (k m : Nat) : Nat := if (m : Int) ≤ firstP s k + 1 then k else k + 1
set_option maxHeartbeats 4000000 in
theorem rPedigree_ok {s : Stem} (hs : s.Ok) : VP (sE r) 11 [.agg ((eStem s).map .p)] (.tup [.p (eInts (!(studE s == 0)) (pedR s)), iv (studE s)]) := by
  have hk := known_ok (r := r) hs
  refine VP.of (fn := Tryz.f11) tb_ok rfl (by kernel_rfl) rfl rfl rfl ?_
  refine VSt.go tb_ok false [] 200 rfl AllP.n ?_
  by_cases h : studE s = 0
  · obtain ⟨hck, hm⟩ := studE_zero h
    have hv := valid_of hck
    have hn : s.copies.length ≤ 7 := hv.c
    have hne : (searchS s).least ≠ [] := fun e => by unfold leastN at hm; rw [e] at hm; exact absurd hm (by decide)
    obtain ⟨l0, hl0⟩ := first_head hne
    have htree := (leastT_mem hv (p := firstP s) (by rw [hl0]; simp)).1
    have hpos : 0 < s.copies.length := least_some hv hm
    rw [show knownT s = treeV s.copies.length (refC s) from if_pos h, show knownN s = (searchS s).cost from if_pos h, h] at hk
    refine VSt.pc rfl rfl rfl rfl rfl rfl rfl rfl (hk) ?_
    refine VSt.go tb_ok false [] 200 rfl AllP.n ?_
    refine VSt.cond rfl (fun h1 => absurd h1 (by decide)) (fun _ => ?_)
    refine VSt.go tb_ok false [] 200 rfl AllP.n ?_
    refine VSt.viewC (Vw.freezeC 0 (eStem s) rfl rfl) ?_
    refine VSt.viewC (Vw.adopt 2 1 (idsF s) 3 rfl) ?_
    refine VSt.viewC (Vw.kp [1, 4, 5, 7, 22, 23, 24] [(1, 1), (2, 2)] rfl) ?_
    refine VSt.rangeT tb_ok s.copies.length (by omega) [1, 4, 5, 22] (fun k => [(7, .acc true 2 1 k)]) (fun k => memP s k) (fun _ => True) rfl rfl rfl (fun _ => rfl) rfl rfl (u0_cons rfl AImp.nilAcc u0_nil) ⟨rfl, BImp.cell1 (AImp.of_eq (by unfold treeK; rw [allowK_zero]; rfl)), rfl, BImp.refl _, trivial⟩ trivial (fun k hk _ => ?_) (fun _ => ?_)
    · have hge := htree.part.ge k hk
      have hlt := htree.part.lt k hk
      have hnek : firstP s k ≠ Int.ofNat k := fun e => by
        have h9 := htree.part.may k hk (by rw [e]; simp only [Int.ofNat_eq_natCast]; omega)
        rw [e] at h9
        exact (cell_ne h9).1 rfl
      have hidx : idOf s (firstP s k) = bif decide (firstP s k < 0) then 0 else idAt s (firstP s k).toNat := rfl
      refine VSt.go tb_ok false [] 200 rfl AllP.n ?_
      refine VSt.loop (α := Nat) (fun m F' L => m ≤ s.copies.length + 1 ∧ F' = [(1, .p (.fp (eStem s) 0)), (4, .ref 1 0), (5, iv (searchS s).cost), (7, .acc true 2 1 (atM s k m)), (8, nv k), (9, iv ((m : Int) - 1)), (22, .p (eCopies s.cn s.copies)), (23, nv s.copies.length), (24, nv k)] ∧ L = memP s (atM s k m)) (fun m => s.copies.length + 1 - m) 0 ?_ ⟨Nat.zero_le _, rfl, rfl⟩ ?_
      · have e0 : atM s k 0 = k := if_pos (by omega)
        rw [e0]
        refine Wk.vw (ps := [(1, 1), (2, 2)]) ⟨rfl, rfl, (by repeat (first | exact wf_nil | refine wf_back rfl rfl rfl ?_)), _, rfl, ((LImp.refl _))⟩
      intro m F' L hI
      have hm1 := hI.1
      have hF := hI.2.1
      have hL := hI.2.2
      clear hI
      by_cases hmk : (m : Int) ≤ firstP s k + 1
      · have ek : atM s k m = k := if_pos hmk
        rw [ek] at hF hL
        subst hF hL
        have hmn : m ≤ s.copies.length := by omega
        refine VSt.go tb_ok false [] 200 rfl AllP.n ?_
        refine VSt.cond rfl (fun g0 => ?_) (fun g0 => ?_)
        · refine VSt.go tb_ok false [] 200 rfl AllP.n ?_
          refine VSt.splitO 37 rfl (fun g1 => ?_) (fun g1 => ?_)
          · have g1 : ((m : Int) - 1 == Int.ofNat k) = true := g1
            have g1 : (m : Int) - 1 = Int.ofNat k := by simpa using g1
            have en : atM s k (m + 1) = k := if_pos (by simp only [Int.ofNat_eq_natCast] at g1 hnek; push_cast; omega)
            refine VSt.go tb_ok false [9] 200 rfl (AllP.c (by unfold inR; (try simp only [Int.ofNat_eq_natCast]); omega) AllP.n) ?_
            refine VSt.putO 33 (iv (((m + 1 : Nat) : Int) - 1)) rfl (iv_eq (by push_cast; omega)) ?_
            refine VSt.go tb_ok false [] 200 rfl AllP.n ?_
            refine ⟨m + 1, _, _, ?_, ⟨by omega, rfl, rfl⟩, by omega⟩
            rw [en]
            refine Wk.vw (ps := [(1, 1), (2, 2)]) ⟨rfl, rfl, (by repeat (first | exact wf_nil | refine wf_back rfl rfl rfl ?_)), _, rfl, ((LImp.refl _))⟩
          · have g1 : ((m : Int) - 1 == Int.ofNat k) = false := g1
            refine VSt.go tb_ok false [] 200 rfl AllP.n ?_
            refine VSt.cond rfl (fun g2 => ?_) (fun g2 => ?_)
            · have g2 : decide (Int.ofNat k < Int.ofNat k) = true := g2
              rw [decide_eq_false (by simp only [Int.ofNat_eq_natCast]; omega)] at g2; cases g2
            refine VSt.go tb_ok false [] 200 rfl AllP.n ?_
            refine VSt.pc rfl rfl rfl rfl rfl rfl rfl rfl ((Only_ok (P := (m : Int) - 1) hn hk)) ?_
            refine VSt.go tb_ok false [] 200 rfl AllP.n ?_
            refine VSt.pc rfl rfl rfl rfl rfl rfl rfl rfl ((fewest_ok hn (onlyC_bd (resC_bd hv (allowK (firstP s) k)) ((m : Int) - 1) k))) ?_
            refine VSt.go tb_ok false [] 200 rfl AllP.n ?_
            by_cases hmP : (m : Int) - 1 = firstP s k
            · have hyes := first_yes hv hl0 k
              rw [← hmP] at hyes
              have en : atM s k (m + 1) = k + 1 := if_neg (by push_cast; omega)
              have htk : AV.p (tabP s.copies.length s.copies.length (onlyC (treeK s k) ((m : Int) - 1) k)) = AV.p (tabP s.copies.length s.copies.length (treeK s (k + 1))) := by
                rw [hmP]
                unfold treeK
                rw [allowK_next]
              refine VSt.cond rfl (fun g3 => ?_) (fun g3 => ?_)
              · refine VSt.go tb_ok false [] 200 rfl AllP.n ?_
                refine VSt.cond rfl (fun g4 => ?_) (fun g4 => ?_)
                · have g4 := of_decide_eq_true (show decide (0 ≤ (m : Int) - 1) = true from g4)
                  have hid : [PV.int .i64 (idAt s (firstP s k).toNat)] = idsF s k := by
                    show _ = [PV.int .i64 (idOf s (firstP s k))]
                    rw [hidx, decide_eq_false (by omega)]; rfl
                  refine VSt.go tb_ok false [57] 200 rfl AllP.n ?_
                  refine VSt.putO 56 (nv (firstP s k).toNat) rfl (iv_nv (by simp only [Int.ofNat_eq_natCast]; omega)) ?_
                  refine VSt.go tb_ok false [9] 200 rfl (AllP.c (by omega) (AllP.c rfl (AllP.c (by omega) (AllP.c (by omega) (AllP.c (fun q hq => match q, hq with | 0, _ => rfl) (AllP.c rfl (AllP.c rfl (AllP.c rfl (AllP.c (by unfold inR; (try simp only [Int.ofNat_eq_natCast]); omega) AllP.n))))))))) ?_
                  refine VSt.putO 33 (iv (((m + 1 : Nat) : Int) - 1)) rfl (iv_eq (by push_cast; omega)) ?_
                  refine VSt.go tb_ok false [] 200 rfl AllP.n ?_
                  refine ⟨m + 1, _, _, ?_, ⟨by omega, rfl, rfl⟩, by omega⟩
                  rw [en]
                  refine Wk.vw (ps := [(1, 1), (2, 4)]) ⟨rfl, rfl, (by repeat (first | exact wf_nil | refine wf_back rfl rfl rfl ?_)), _, rfl, (⟨rfl, BImp.cell1 (AImp.of_eq htk), rfl, BImp.acc rfl (fun q hq => app_one (f := idsF s) (x := .int .i64 (idAt s (firstP s k).toNat)) hid hq), trivial⟩)⟩
                · have g4 := of_decide_eq_false (show decide (0 ≤ (m : Int) - 1) = false from g4)
                  have hid : [PV.int .i64 0] = idsF s k := by
                    show _ = [PV.int .i64 (idOf s (firstP s k))]
                    rw [hidx, decide_eq_true (by omega)]; rfl
                  refine VSt.go tb_ok false [9] 200 rfl (AllP.c (by omega) (AllP.c (by omega) (AllP.c (fun q hq => match q, hq with | 0, _ => rfl) (AllP.c rfl (AllP.c rfl (AllP.c rfl (AllP.c (by unfold inR; (try simp only [Int.ofNat_eq_natCast]); omega) AllP.n))))))) ?_
                  refine VSt.putO 33 (iv (((m + 1 : Nat) : Int) - 1)) rfl (iv_eq (by push_cast; omega)) ?_
                  refine VSt.go tb_ok false [] 200 rfl AllP.n ?_
                  refine ⟨m + 1, _, _, ?_, ⟨by omega, rfl, rfl⟩, by omega⟩
                  rw [en]
                  refine Wk.vw (ps := [(1, 1), (2, 4)]) ⟨rfl, rfl, (by repeat (first | exact wf_nil | refine wf_back rfl rfl rfl ?_)), _, rfl, (⟨rfl, BImp.cell1 (AImp.of_eq htk), rfl, BImp.acc rfl (fun q hq => app_one (f := idsF s) (x := .int .i64 0) hid hq), trivial⟩)⟩
              · have g3 : (fewM (onlyC (treeK s k) ((m : Int) - 1) k) s.copies.length == (searchS s).cost) = false := g3
                have hyes : fewM (onlyC (treeK s k) ((m : Int) - 1) k) s.copies.length = (searchS s).cost := hyes
                rw [hyes, beq_self_eq_true] at g3; cases g3
            · have hno := first_no hv hl0 hk (P := (m : Int) - 1) (by omega) (by omega)
              have en : atM s k (m + 1) = k := if_pos (by push_cast; omega)
              refine VSt.cond rfl (fun g3 => ?_) (fun g3 => ?_)
              · have g3 : (fewM (onlyC (treeK s k) ((m : Int) - 1) k) s.copies.length == (searchS s).cost) = true := g3
                have hno : fewM (onlyC (treeK s k) ((m : Int) - 1) k) s.copies.length ≠ (searchS s).cost := hno
                exact absurd (by simpa using g3) hno
              refine VSt.go tb_ok false [9] 200 rfl (AllP.c (by unfold inR; (try simp only [Int.ofNat_eq_natCast]); omega) AllP.n) ?_
              refine VSt.putO 33 (iv (((m + 1 : Nat) : Int) - 1)) rfl (iv_eq (by push_cast; omega)) ?_
              refine VSt.go tb_ok false [] 200 rfl AllP.n ?_
              refine ⟨m + 1, _, _, ?_, ⟨by omega, rfl, rfl⟩, by omega⟩
              rw [en]
              refine Wk.vw (ps := [(1, 1), (2, 2)]) ⟨rfl, rfl, (by repeat (first | exact wf_nil | refine wf_back rfl rfl rfl ?_)), _, rfl, ((LImp.refl _))⟩
        · have g0 : decide ((m : Int) - 1 < Int.ofNat s.copies.length) = false := g0
          have := of_decide_eq_false g0
          simp only [Int.ofNat_eq_natCast] at this
          omega
      · have ek : atM s k m = k + 1 := if_neg hmk
        rw [ek] at hF hL
        subst hF hL
        have en : atM s k (m + 1) = k + 1 := if_neg (by push_cast; omega)
        refine VSt.go tb_ok false [] 200 rfl AllP.n ?_
        refine VSt.cond rfl (fun g0 => ?_) (fun g0 => ?_)
        · have g0 := of_decide_eq_true (show decide ((m : Int) - 1 < Int.ofNat s.copies.length) = true from g0)
          simp only [Int.ofNat_eq_natCast] at g0
          refine VSt.go tb_ok false [] 200 rfl AllP.n ?_
          refine VSt.splitO 37 rfl (fun g1 => ?_) (fun g1 => ?_)
          · skip
            refine VSt.go tb_ok false [9] 200 rfl (AllP.c (by unfold inR; (try simp only [Int.ofNat_eq_natCast]); omega) AllP.n) ?_
            refine VSt.putO 33 (iv (((m + 1 : Nat) : Int) - 1)) rfl (iv_eq (by push_cast; omega)) ?_
            refine VSt.go tb_ok false [] 200 rfl AllP.n ?_
            refine ⟨m + 1, _, _, ?_, ⟨by omega, rfl, rfl⟩, by omega⟩
            rw [en]
            refine Wk.vw (ps := [(1, 1), (2, 2)]) ⟨rfl, rfl, (by repeat (first | exact wf_nil | refine wf_back rfl rfl rfl ?_)), _, rfl, ((LImp.refl _))⟩
          · refine VSt.go tb_ok false [] 200 rfl AllP.n ?_
            refine VSt.cond rfl (fun g2 => ?_) (fun g2 => ?_)
            · skip
              refine VSt.go tb_ok false [9] 200 rfl (AllP.c (by unfold inR; (try simp only [Int.ofNat_eq_natCast]); omega) AllP.n) ?_
              refine VSt.putO 33 (iv (((m + 1 : Nat) : Int) - 1)) rfl (iv_eq (by push_cast; omega)) ?_
              refine VSt.go tb_ok false [] 200 rfl AllP.n ?_
              refine ⟨m + 1, _, _, ?_, ⟨by omega, rfl, rfl⟩, by omega⟩
              rw [en]
              refine Wk.vw (ps := [(1, 1), (2, 2)]) ⟨rfl, rfl, (by repeat (first | exact wf_nil | refine wf_back rfl rfl rfl ?_)), _, rfl, ((LImp.refl _))⟩
            · have g2 := of_decide_eq_false (show decide (Int.ofNat k < Int.ofNat (k + 1)) = false from g2)
              simp only [Int.ofNat_eq_natCast] at g2
              omega
        · refine VSt.go tb_ok false [] 200 rfl AllP.n ?_
          refine ⟨?_, trivial⟩
          refine Wk.vw (ps := [(1, 1), (2, 2)]) ⟨rfl, rfl, (by repeat (first | exact wf_nil | refine wf_back rfl rfl rfl ?_)), _, rfl, ((LImp.refl _))⟩
    · refine VSt.go tb_ok false [65] 200 rfl AllP.n ?_
      refine VSt.viewO (Vw.kp [7] [(2, 2)] rfl) ?_
      refine VSt.viewO (Vw.freezeA 2 rfl rfl ⟨Nat.le_refl _, rfl⟩) ?_
      refine VSt.go tb_ok false [] 200 rfl AllP.n ?_
      refine ⟨rfl, _, rfl, rfl, ?_⟩
      rw [show pedR s = pedL s from if_pos h, h]
      refine AImp.tup ⟨?_, AImp.refl _, trivial⟩
      show AImp (.p (.lst 3 (true && Nat.beq s.copies.length 0) s.copies.length (idsF s))) (.p (.lst 3 false (pedL s).length _))
      rw [pedL_len, beq_ne (show s.copies.length ≠ 0 by omega)]
      exact AImp.lst fun j hj => by rw [show (pedL s).getD j 0 = idOf s (firstP s j) from map_at (f := fun k => idOf s (firstP s k)) hj]; rfl
  · rw [show knownT s = .agg [.p nilP] from if_neg h] at hk
    refine VSt.pc rfl rfl rfl rfl rfl rfl rfl rfl (hk) ?_
    refine VSt.go tb_ok false [] 200 rfl AllP.n ?_
    refine VSt.cond rfl (fun h1 => ?_) (fun h1 => ?_)
    · refine VSt.go tb_ok false [] 200 rfl AllP.n ?_
      refine ⟨rfl, _, rfl, rfl, ?_⟩
      rw [show pedR s = [] from if_neg h, show (!(studE s == 0)) = true by simpa using h]
      exact AImp.tup ⟨AImp.nil, AImp.refl _, trivial⟩
    · have h1 : (!(studE s == 0)) = false := h1
      exact absurd (by simpa using h1) h
end Go.Proofs.YtncpeobcgmkkbaaGreat
/- Walks: the law of pedigrees. -/
set_option maxRecDepth 100000
namespace Go.Proofs.YtncpeobcgmkkbaaGreat
variable {r : Tr (List Value × TypeId)}
open Classical in
theorem sameSlipsV_ok (s : Stem) (l : List Int) : VP (sE r) 17 [.p (slipsV s l), .p (slipsV s l)] (bv true) := by
  by_cases h : pedE s l = 0
  · obtain ⟨hv, _, _⟩ := pedE_zero h
    have := allF_len hv (parF s l) s.copies.length (Nat.le_refl _)
    have hn := hv.c
    rw [show slipsV s l = eSlips (allF s (parF s l) s.copies.length).isEmpty (allF s (parF s l) s.copies.length) from if_pos h]
    exact sameSlips_ok (by omega)
  · rw [show slipsV s l = .lst 0 true 0 fun _ => [] from if_neg h]
    exact VP.imp (sameSlips_ok (b1 := true) (b2 := true) (l := []) (by decide)) ⟨AImp.nil, AImp.nil, trivial⟩
theorem pedR_len (s : Stem) : (pedR s).length ≤ s.copies.length := by
  unfold pedR
  split
  · rw [pedL_len]; exact Nat.le_refl _
  · exact Nat.zero_le _
set_option maxHeartbeats 4000000 in
theorem stemPedigrees_law {s : Stem} {b : Bool} {l : List Int} (hs : s.Ok) (hf : s.Flags) (hl : l.length < 9223372036854775808) : VP (sE r) 3 [.agg ((eStem s).map .p), .p (eInts b l)] (bv true) := by
  have hpl : (pedR s).length < 9223372036854775808 := Nat.lt_of_le_of_lt (pedR_len s) hs.c
  refine VP.of (fn := Tryz.f3) tb_ok rfl (by kernel_rfl) rfl rfl rfl ?_
  refine VSt.go tb_ok false [] 200 rfl AllP.n ?_
  refine VSt.pc rfl rfl rfl rfl rfl rfl rfl rfl ((Fewest_ok hs)) ?_
  refine VSt.go tb_ok false [] 200 rfl AllP.n ?_
  refine VSt.pc rfl rfl rfl rfl rfl rfl rfl rfl ((rFewest_ok hs)) ?_
  refine VSt.go tb_ok false [] 200 rfl AllP.n ?_
  refine VSt.pc rfl rfl rfl rfl rfl rfl rfl rfl ((Pedigree_ok hs)) ?_
  refine VSt.go tb_ok false [] 200 rfl AllP.n ?_
  refine VSt.pc rfl rfl rfl rfl rfl rfl rfl rfl ((rPedigree_ok hs)) ?_
  refine VSt.go tb_ok false [] 200 rfl AllP.n ?_
  refine VSt.pc rfl rfl rfl rfl rfl rfl rfl rfl ((CostOf_ok hs hl)) ?_
  refine VSt.go tb_ok false [] 200 rfl AllP.n ?_
  refine VSt.pc rfl rfl rfl rfl rfl rfl rfl rfl ((rCostOf_ok hs hl)) ?_
  refine VSt.go tb_ok false [] 200 rfl AllP.n ?_
  refine VSt.pc rfl rfl rfl rfl rfl rfl rfl rfl ((Slips_ok hs hl)) ?_
  refine VSt.go tb_ok false [] 200 rfl AllP.n ?_
  refine VSt.pc rfl rfl rfl rfl rfl rfl rfl rfl ((rSlips_ok hs hl)) ?_
  refine VSt.go tb_ok false [] 200 rfl AllP.n ?_
  refine VSt.splitD 68 rfl (fun g1 => ?_) (fun g1 => ?_)
  · refine VSt.go tb_ok false [] 200 rfl AllP.n ?_
    refine VSt.splitD 73 rfl (fun g2 => ?_) (fun g2 => ?_)
    · refine VSt.go tb_ok false [] 200 rfl AllP.n ?_
      refine VSt.pcD rfl rfl rfl rfl rfl rfl rfl rfl ((same_ok hpl)) ?_
      refine VSt.go tb_ok false [] 200 rfl AllP.n ?_
      refine VSt.splitD 78 rfl (fun g3 => ?_) (fun g3 => ?_)
      · refine VSt.go tb_ok false [] 200 rfl AllP.n ?_
        refine VSt.splitD 83 rfl (fun g4 => ?_) (fun g4 => ?_)
        · refine VSt.go tb_ok false [] 200 rfl AllP.n ?_
          refine VSt.splitD 88 rfl (fun g5 => ?_) (fun g5 => ?_)
          · refine VSt.go tb_ok false [] 200 rfl AllP.n ?_
            refine VSt.splitD 93 rfl (fun g6 => ?_) (fun g6 => ?_)
            · refine VSt.go tb_ok false [] 200 rfl AllP.n ?_
              refine VSt.pcD rfl rfl rfl rfl rfl rfl rfl rfl ((sameSlipsV_ok s l)) ?_
              refine VSt.go tb_ok false [] 200 rfl AllP.n ?_
              refine VSt.splitD 98 rfl (fun g7 => ?_) (fun g7 => ?_)
              · refine VSt.go tb_ok false [] 200 rfl AllP.n ?_
                refine VSt.splitD 103 rfl (fun g8 => ?_) (fun g8 => ?_)
                · refine VSt.go tb_ok false [] 200 rfl AllP.n ?_
                  refine VSt.pcD rfl rfl rfl rfl rfl rfl rfl rfl ((CheckPed_ok hs hl)) ?_
                  refine VSt.go tb_ok false [] 200 rfl AllP.n ?_
                  refine VSt.pcD rfl rfl rfl rfl rfl rfl rfl rfl ((rCheckPed_ok hs hl)) ?_
                  refine VSt.go tb_ok false [] 200 rfl AllP.n ?_
                  refine VSt.splitD 112 rfl (fun g9 => ?_) (fun g9 => ?_)
                  · refine VSt.go tb_ok false [] 200 rfl AllP.n ?_
                    refine VSt.pcD rfl rfl rfl rfl rfl rfl rfl rfl ((VP.hook rfl)) ?_
                    refine VSt.go tb_ok false [] 200 rfl AllP.n ?_
                    exact EndsP.mk rfl rfl rfl rfl
                  · exact absurd (show (pedE s l == pedE s l) = false from g9) (by simp)
                · exact absurd (show (pedE s l == pedE s l) = false from g8) (by simp)
              · exact absurd (show true = false from g7) (by decide)
            · exact absurd (show (pedE s l == pedE s l) = false from g6) (by simp)
          · exact absurd (show (costOfI s l == costOfI s l) = false from g5) (by simp)
        · exact absurd (show (studE s == studE s) = false from g4) (by simp)
      · exact absurd (show true = false from g3) (by decide)
    · exact absurd (show (studE s == studE s) = false from g2) (by simp)
  · exact absurd (show (knownN s == knownN s) = false from g1) (by simp)
end Go.Proofs.YtncpeobcgmkkbaaGreat
