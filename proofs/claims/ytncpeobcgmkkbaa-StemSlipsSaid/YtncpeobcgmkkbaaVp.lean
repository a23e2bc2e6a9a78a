/- The program's StemSlips returns true for every stem and every list of Ids, valid or not, without an exception and without changing its arguments: a part of the proof. -/
import Derived.Test.YtncpeobcgmkkbaaVo
import Derived.Test.YtncpeobcgmkkbaaVe
set_option linter.all false
/- Walks: the search; a stem that is studied. -/
set_option maxRecDepth 100000
namespace Go.Proofs.Ytncpeobcgmkkbaa
variable {r : Tr (List Value × TypeId)}
def startS : SS := ⟨false, 0, [], fun _ => 0⟩
/-- What the search finds. -/
def searchS (s : Stem) : SS := stepS s s.copies.length 0 0 false startS
theorem search_ok {s : Stem} (hs : s.Ok) (hv : s.Valid) : VC (sE r) [0] 64 [.ref 0 0] [(0, studyC s (.p (rowsP s)) (.p (.lst 0 true 0 fun _ => [])) 0)]
    (fun a L => a = .tup [] ∧ L = [(0, studyC s (.p (rowsP s)) (.acc true 1 1 (searchS s).least.length) (searchS s).cost), (1, .acc (searchS s).least.length 1 (fLst s (searchS s).least) 28)]) := by
  have hn : s.copies.length ≤ 7 := hv.c
  refine VC.of (fn := Try.f64) tb_ok rfl (by kernel_rfl) rfl rfl ?_
  refine VSt.run tb_ok false [] 200 rfl trivial ?_
  refine VSt.look (Vw.trans (Wk.vw (ps := [(0, 0)]) (F0 := [(6, .ref 0 0)]) (L0 := [(0, studyC s (.p (rowsP s)) (.p (.lst 0 true 0 fun _ => [])) 0)]) ⟨rfl, rfl, (by repeat (first | exact wf_nil | refine wf_back rfl rfl rfl ?_)), _, rfl, LImp.refl _⟩) (Vw.freezeC 0 (studyP s (.lst 0 true 0 fun _ => []) (.int .i64 0)) rfl rfl)) rfl rfl rfl rfl rfl rfl rfl (floors_ok hv) (fun a L' h => by rw [h.1, h.2]; exact ⟨rfl, trivial, trivial⟩) ?_
  rintro a L' ⟨rfl, rfl⟩
  refine VSt.run tb_ok false [] 200 rfl (⟨Nat.le_refl _, by show s.copies.length ≤ 1048576; omega⟩) ?_
  refine VSt.viewO (Wk.vw (ps := [(0, 0), (1, 1), (2, 3), (3, 2), (4, 4), (5, 5), (6, 6), (7, 7)]) (F0 := [(16, stepF)])
    (L0 := [(0, studyC s (.p (rowsP s)) (.p (.lst 0 true 0 fun _ => [])) 0), (1, .cells [.ref 0 0] 65), (2, .cells [.map 3] 105), (3, .mapI (flK s (s.copies.length + 1))), (4, .arr s.copies.length 1 (fun q => [.int .i64 ((fun _ => 0 : Nat → Int) q)]) 3), (5, .cells [.sl 4 1 0 s.copies.length s.copies.length 1] 28), (6, .cells [bv false] 4), (7, .cells [stepF] 107)])
    ⟨rfl, rfl, (by repeat (first | exact wf_nil | refine wf_back rfl rfl rfl ?_)), _, rfl, LImp.refl _⟩) ?_
  refine VSt.viewO (Vw.adopt 8 1 (fLst s []) 28 rfl) ?_
  refine VSt.viewO (Wk.vw (ps := [(0, 0), (1, 1), (2, 2), (3, 3), (4, 4), (5, 5), (6, 6), (7, 7), (8, 8)]) (F0 := [(16, stepF)]) (L0 := SM s startS) ⟨rfl, rfl, (by repeat (first | exact wf_nil | refine wf_back rfl rfl rfl ?_)), _, rfl,
    ⟨rfl, BImp.cells ⟨AImp.refl _, AImp.refl _, AImp.refl _, AImp.refl _, AImp.refl _, AImp.refl _, AImp.refl _, AImp.nilAcc, AImp.refl _, trivial⟩, rfl, BImp.refl _, rfl, BImp.refl _, rfl, BImp.refl _, rfl, BImp.refl _, rfl, BImp.refl _, rfl, BImp.refl _, rfl, BImp.refl _, rfl, BImp.refl _, trivial⟩⟩) ?_
  refine VSt.cg [(0, 0), (1, 1), (2, 2), (3, 3), (4, 4), (5, 5), (6, 6), (7, 7), (8, 8)] rfl rfl rfl rfl rfl rfl rfl rfl rfl rfl rfl rfl (step_ok hs hv s.copies.length 0 0 false startS (Nat.zero_add _) ⟨fun q hq => absurd hq (Nat.not_lt_zero q), acyc_zero _, fun h => Bool.noConfusion h⟩ ⟨Int.le_refl _, by decide⟩ (fun h => Bool.noConfusion h) (by show 0 + _ ≤ _; rw [Nat.zero_add]; exact many_all hn)) ?_
  rintro a L' ⟨rfl, rfl⟩
  refine VSt.run tb_ok false [] 200 rfl trivial ?_
  exact ⟨rfl, _, [(0, 0), (1, 8)], _, _, rfl, ⟨rfl, rfl, wf_imp rfl rfl (AImp.refl _) wf_nil, _, rfl, LImp.refl _⟩, rfl, rfl⟩
end Go.Proofs.Ytncpeobcgmkkbaa
/- Walks: a stem that is studied; the fewest, a pedigree. -/
set_option maxRecDepth 100000
namespace Go.Proofs.Ytncpeobcgmkkbaa
variable {r : Tr (List Value × TypeId)}
def leastP (s : Stem) : PV := .lst 28 false (searchS s).least.length (fLst s (searchS s).least)
/-- A study that has been searched, frozen. -/
def studyV (s : Stem) : AV := .p (.fp (studyP s (leastP s) (.int .i64 (searchS s).cost)) 0)
def agreedV (s : Stem) : AV := bif (searchS s).least.isEmpty then .tup [.p .nilp, iv 45] else .tup [studyV s, iv 0]
theorem agreed_ok {s : Stem} (hs : s.Ok) (hv : s.Valid) : VP (sE r) 42 [.agg ((eStem s).map .p)] (agreedV s) := by
  have ho : (agreedV s).only (fun _ => false) = true := by
    unfold agreedV
    cases (searchS s).least.isEmpty <;> rfl
  refine VP.of (fn := Try.f42) tb_ok rfl (by kernel_rfl) rfl rfl ho ?_
  refine VSt.run tb_ok false [] 200 rfl trivial ?_
  refine VSt.cc [] rfl rfl rfl rfl rfl rfl rfl rfl rfl rfl rfl (newStudy_ok hs hv) ?_
  rintro a L' ⟨rfl, rfl⟩
  refine VSt.run tb_ok false [] 200 rfl trivial ?_
  refine VSt.cc [(0, 1)] rfl rfl rfl rfl rfl rfl rfl rfl rfl rfl rfl (search_ok hs hv) ?_
  rintro a L' ⟨rfl, rfl⟩
  refine VSt.run tb_ok false [] 200 rfl trivial ?_
  refine VSt.cond rfl (fun h => ?_) (fun h => ?_)
  · have h : (searchS s).least = [] := by
      have h2 : (Int.ofNat (searchS s).least.length == 0) = true := h
      have h3 : Int.ofNat (searchS s).least.length = 0 := eq_of_beq h2
      exact List.length_eq_zero_iff.1 (Int.ofNat_inj.1 h3)
    refine VSt.run tb_ok false [] 200 rfl trivial ?_
    refine ⟨rfl, _, rfl, rfl, ?_⟩
    unfold agreedV
    rw [h]
    exact AImp.refl _
  · have h : (searchS s).least.length ≠ 0 := fun e => by
      have h2 : (Int.ofNat (searchS s).least.length == 0) = false := h
      rw [e] at h2; exact absurd h2 (by decide)
    have hb : Nat.beq (searchS s).least.length 0 = false := beq_ne h
    have he : (searchS s).least.isEmpty = false := by
      cases hl : (searchS s).least with
      | nil => rw [hl] at h; exact absurd rfl h
      | cons x l => rfl
    refine VSt.viewC (Wk.vw (ps := [(1, 1), (2, 3)]) (F0 := [(4, .ref 1 0)]) (L0 := [(1, studyC s (.p (rowsP s)) (.acc true 2 1 (searchS s).least.length) (searchS s).cost), (2, .acc (searchS s).least.length 1 (fLst s (searchS s).least) 28)]) ⟨rfl, rfl, (by repeat (first | exact wf_nil | refine wf_back rfl rfl rfl ?_)), _, rfl, LImp.refl _⟩) ?_
    refine VSt.viewC (Vw.freezeA 2 rfl rfl ⟨Nat.le_refl _, rfl⟩) ?_
    refine VSt.viewC (Vw.freezeC 1 (studyP s (.lst 28 (true && Nat.beq (searchS s).least.length 0) (searchS s).least.length (fLst s (searchS s).least)) (.int .i64 (searchS s).cost)) rfl rfl) ?_
    refine VSt.run tb_ok false [] 200 rfl trivial ?_
    refine ⟨rfl, _, rfl, rfl, ?_⟩
    unfold agreedV
    rw [he, hb]
    exact AImp.refl _
/-- A study, or an error. -/
def studiedV (s : Stem) : AV := bif ckStem s == 0 then agreedV s else .tup [.p .nilp, iv (ckStem s)]
/-- The error of a study. -/
def studE (s : Stem) : Int := if ckStem s = 0 then (if (searchS s).least = [] then 45 else 0) else ckStem s
theorem studied_ok {s : Stem} (hs : s.Ok) : VP (sE r) 34 [.agg ((eStem s).map .p)] (.tup [if studE s = 0 then studyV s else .p .nilp, iv (studE s)]) := by
  have ho : AV.only (fun _ => false) (.tup [if studE s = 0 then studyV s else .p .nilp, iv (studE s)]) = true := by
    by_cases h : studE s = 0
    · rw [if_pos h]; rfl
    · rw [if_neg h]; rfl
  refine VP.of (fn := Try.f34) tb_ok rfl (by kernel_rfl) rfl rfl ho ?_
  refine VSt.run tb_ok false [] 200 rfl trivial ?_
  first | refine VSt.pc rfl rfl rfl rfl rfl rfl rfl rfl ((check_ok s hs)) ?_ | refine VSt.pcD rfl rfl rfl rfl rfl rfl rfl rfl ((check_ok s hs)) ?_
  refine VSt.run tb_ok false [] 200 rfl trivial ?_
  refine VSt.cond rfl (fun h1 => ?_) (fun h1 => ?_)
  · have h0 : ¬ ckStem s = 0 := by simpa using h1
    refine VSt.run tb_ok false [] 200 rfl trivial ?_
    refine ⟨rfl, _, rfl, rfl, ?_⟩
    have e : studE s = ckStem s := if_neg h0
    rw [e, if_neg h0]
    exact AImp.refl _
  have h0 : ckStem s = 0 := by simpa using h1
  have hv := valid_of h0
  refine VSt.run tb_ok false [] 200 rfl trivial ?_
  have ha := agreed_ok (r := r) hs hv
  by_cases h2 : (searchS s).least = []
  · have e : studE s = 45 := by unfold studE; rw [if_pos h0, if_pos h2]
    have ea : agreedV s = .tup [.p .nilp, iv 45] := by unfold agreedV; rw [h2]; rfl
    rw [ea] at ha
    first | refine VSt.pc rfl rfl rfl rfl rfl rfl rfl rfl (ha) ?_ | refine VSt.pcD rfl rfl rfl rfl rfl rfl rfl rfl (ha) ?_
    refine VSt.run tb_ok false [] 200 rfl trivial ?_
    refine ⟨rfl, _, rfl, rfl, ?_⟩
    rw [e, if_neg (by decide)]
    exact AImp.refl _
  · have e : studE s = 0 := by unfold studE; rw [if_pos h0, if_neg h2]
    have he : (searchS s).least.isEmpty = false := by
      cases hl : (searchS s).least with
      | nil => exact absurd hl h2
      | cons x l => rfl
    have ea : agreedV s = .tup [studyV s, iv 0] := by unfold agreedV; rw [he]; rfl
    rw [ea] at ha
    first | refine VSt.pc rfl rfl rfl rfl rfl rfl rfl rfl (ha) ?_ | refine VSt.pcD rfl rfl rfl rfl rfl rfl rfl rfl (ha) ?_
    refine VSt.run tb_ok false [] 200 rfl trivial ?_
    refine ⟨rfl, _, rfl, rfl, ?_⟩
    rw [e, if_pos rfl]
    exact AImp.refl _
end Go.Proofs.Ytncpeobcgmkkbaa
/- Walks: is it a tree; the parents of a pedigree. -/
set_option maxRecDepth 100000
namespace Go.Proofs.Ytncpeobcgmkkbaa
variable {r : Tr (List Value × TypeId)}
/-- At most m steps up. -/
def walkU (p : Nat → Int) : Nat → Nat → Nat
  | 0, a => a
  | m + 1, a => if 0 ≤ p a then walkU p m (p a).toNat else a
theorem walkU_lt {p : Nat → Int} {n : Nat} (hp : ∀ k, k < n → p k < n) : ∀ (m a : Nat), a < n → walkU p m a < n
  | 0, a, h => h
  | m + 1, a, h => by
    unfold walkU
    split
    · rename_i h0
      have := hp a h
      exact walkU_lt hp m _ (by omega)
    · exact h
theorem walkU_step {p : Nat → Int} {a : Nat} (h : 0 ≤ p a) (m : Nat) : walkU p (m + 1) a = walkU p m (p a).toNat := if_pos h
theorem walkU_stop {p : Nat → Int} {a : Nat} (h : ¬ 0 ≤ p a) : ∀ m, walkU p m a = a
  | 0 => rfl
  | m + 1 => if_neg h
/-- How many of the first k are roots. -/
def rootsN (p : Nat → Int) : Nat → Nat
  | 0 => 0
  | k + 1 => bif decide (p k < 0) then rootsN p k + 1 else rootsN p k
theorem rootsN_le (p : Nat → Int) : ∀ k, rootsN p k ≤ k
  | 0 => Nat.le_refl _
  | k + 1 => by
    have := rootsN_le p k
    unfold rootsN
    cases decide (p k < 0) <;> simp only [cond_true, cond_false] <;> omega
def rootedB (n : Nat) (p : Nat → Int) : Bool := ((List.range n).all fun i => decide (p (walkU p n i) < 0)) && (Int.ofNat (rootsN p n) == 1)
theorem rooted_no {n : Nat} {p : Nat → Int} {i : Nat} (hi : i < n) (h : 0 ≤ p (walkU p n i)) : rootedB n p = false := by
  unfold rootedB
  have : ((List.range n).all fun i => decide (p (walkU p n i) < 0)) = false := by
    rw [List.all_eq_false]
    exact ⟨i, List.mem_range.2 hi, by simpa using h⟩
  rw [this]; rfl
theorem rooted_yes {n : Nat} {p : Nat → Int} (h : ∀ i, i < n → p (walkU p n i) < 0) : rootedB n p = (Int.ofNat (rootsN p n) == 1) := by
  unfold rootedB
  have : ((List.range n).all fun i => decide (p (walkU p n i) < 0)) = true := by
    rw [List.all_eq_true]
    exact fun i hi => by simpa using h i (List.mem_range.1 hi)
  rw [this]; rfl
/-- A list of ints by a function. -/
def intsF (b : Bool) (n : Nat) (p : Nat → Int) : PV := .lst 3 b n fun k => [.int .i64 (p k)]
theorem isRooted_ok {b : Bool} {n : Nat} {p : Nat → Int} (hn : n ≤ 1000) (hp : ∀ k, k < n → p k < n) : VP (sE r) 74 [.p (intsF b n p)] (bv (rootedB n p)) := by
  refine VP.of (fn := Try.f74) tb_ok rfl (by kernel_rfl) rfl rfl rfl ?_
  refine VSt.run tb_ok false [] 200 rfl trivial ?_
  refine VSt.rangeF tb_ok n (by omega) (fun k => [(0, .p (intsF b n p)), (3, nv (rootsN p k))]) (fun _ => []) (fun k => ∀ i, i < k → p (walkU p n i) < 0) rfl rfl (fun _ => rfl) ?_ (fun i hi => absurd hi (Nat.not_lt_zero i)) (fun i hi hb => ?_) (fun hb => ?_)
  · (refine Vw.drop (by repeat (first | exact wf_nil | refine wf_back rfl rfl rfl ?_ | refine wf_cons rfl (by assumption) (ren_only _ (by assumption)) ?_)))
  · refine VSt.run tb_ok false [] 200 rfl trivial ?_
    refine VSt.loop (α := Nat × Nat) (fun x F L => x.1 ≤ n ∧ x.2 < n ∧ walkU p (n - x.1) x.2 = walkU p n i ∧ F = [(0, .p (intsF b n p)), (3, nv (rootsN p i)), (4, nv i), (5, nv x.2), (6, nv x.1), (8, nv n), (9, nv i)] ∧ L = []) (fun x => n - x.1) (0, i) (by (refine Vw.sub' (subK (by repeat (first | exact sk_nil | refine sk_cons rfl ?_))))) ⟨Nat.zero_le _, hi, rfl, rfl, rfl⟩ ?_
    rintro ⟨m, a⟩ F L ⟨hm, ha, hw, rfl, rfl⟩
    have hm : m ≤ n := hm
    have ha : a < n := ha
    have hw : walkU p (n - m) a = walkU p n i := hw
    have hpa := hp a ha
    refine VSt.run tb_ok false [] 200 rfl (⟨ha, rfl⟩) ?_
    first | refine VSt.splitO 18 rfl (fun h1 => ?_) (fun h1 => ?_) | refine VSt.splitD 18 rfl (fun h1 => ?_) (fun h1 => ?_)
    all_goals
      first
        | (
            have h1 : decide (0 ≤ p a) = true := h1
            have h1 := of_decide_eq_true h1
            refine VSt.run tb_ok false [] 200 rfl trivial ?_
            refine VSt.cond rfl (fun h2 => ?_) (fun h2 => ?_)
            · have h2 : m < n := by have := of_decide_eq_true h2; simp only [Int.ofNat_eq_natCast] at this; omega
              refine VSt.run tb_ok false [] 200 rfl (⟨ha, rfl, (by show inR _; unfold inR; simp only [Int.ofNat_eq_natCast]; omega)⟩) ?_
              have e2 : p a = Int.ofNat (p a).toNat := by simp only [Int.ofNat_eq_natCast]; omega
              exact ⟨(m + 1, (p a).toNat), _, _, Wk.vw (ps := []) (F0 := [(0, .p (intsF b n p)), (3, nv (rootsN p i)), (4, nv i), (5, nv (p a).toNat), (6, nv (m + 1)), (8, nv n), (9, nv i)]) (L0 := []) ⟨rfl, rfl, wf_back rfl rfl rfl (wf_back rfl rfl rfl (wf_back rfl rfl rfl (wf_imp rfl rfl (iv_nv e2) (wf_back rfl rfl rfl (wf_back rfl rfl rfl (wf_back rfl rfl rfl wf_nil)))))), _, rfl, LImp.refl _⟩,
                ⟨h2, (by show (p a).toNat < n; omega), (by show walkU p (n - (m + 1)) _ = _; rw [← hw, ← walkU_step h1, show n - (m + 1) + 1 = n - m by omega]), rfl, rfl⟩, by show n - (m + 1) < n - m; omega⟩
            · have h2 : m = n := by have := of_decide_eq_false h2; simp only [Int.ofNat_eq_natCast] at this; omega
              have hw2 : walkU p n i = a := by rw [← hw, h2, Nat.sub_self]; rfl
              refine VSt.run tb_ok false [] 200 rfl (⟨ha, rfl⟩) ?_
              refine VSt.cond rfl (fun h3 => ?_) (fun h3 => ?_)
              · refine VSt.run tb_ok false [] 200 rfl trivial ?_
                refine EndsP.mk rfl rfl rfl ?_
                show bv _ = bv _
                rw [rooted_no hi (by rw [hw2]; exact h1)]
              · have h3 : decide (0 ≤ p a) = false := h3
                exact absurd h1 (of_decide_eq_false h3)
          )
        | (
            have h1 : decide (0 ≤ p a) = false := h1
            have h1 := of_decide_eq_false h1
            have hw2 : walkU p n i = a := by rw [← hw, walkU_stop h1]
            refine VSt.run tb_ok false [] 200 rfl (⟨ha, rfl⟩) ?_
            refine VSt.cond rfl (fun h3 => ?_) (fun h3 => ?_)
            · have h3 : decide (0 ≤ p a) = true := h3
              exact absurd (of_decide_eq_true h3) h1
            refine VSt.run tb_ok false [] 200 rfl (⟨hi, rfl⟩) ?_
            have hb2 : ∀ j, j < i + 1 → p (walkU p n j) < 0 := fun j hj => by
              by_cases e : j = i
              · subst e; rw [hw2]; omega
              · exact hb j (by omega)
            have hr := rootsN_le p i
            refine VSt.cond rfl (fun h4 => ?_) (fun h4 => ?_)
            · have h4 : decide (p i < 0) = true := h4
              refine VSt.run tb_ok false [] 200 rfl ((by show inR _; unfold inR; simp only [Int.ofNat_eq_natCast]; omega)) ?_
              have e : rootsN p (i + 1) = rootsN p i + 1 := by rw [rootsN, h4]; rfl
              refine ⟨?_, hb2⟩
              dsimp only
              rw [e]
              (refine Vw.sub' (subK (by repeat (first | exact sk_nil | refine sk_cons rfl ?_))))
            · have h4 : decide (p i < 0) = false := h4
              refine VSt.run tb_ok false [] 200 rfl trivial ?_
              have e : rootsN p (i + 1) = rootsN p i := by rw [rootsN, h4]; rfl
              refine ⟨?_, hb2⟩
              dsimp only
              rw [e]
              (refine Vw.sub' (subK (by repeat (first | exact sk_nil | refine sk_cons rfl ?_))))
          )
  · refine VSt.run tb_ok false [] 200 rfl trivial ?_
    refine EndsP.mk rfl rfl rfl ?_
    show bv _ = bv _
    rw [rooted_yes hb]
end Go.Proofs.Ytncpeobcgmkkbaa
/- Walks: the parents of a pedigree; what it costs. -/
set_option maxRecDepth 100000
namespace Go.Proofs.Ytncpeobcgmkkbaa
variable {r : Tr (List Value × TypeId)}
/-- The parents that a list of Ids names, by indices. -/
def parF (s : Stem) (l : List Int) : Nat → Int := fun k => place s (l.getD k 0)
def badP (s : Stem) (l : List Int) (k : Nat) : Bool := (!(l.getD k 0 == 0)) && (decide (parF s l k < 0) || (parF s l k == Int.ofNat k || isNever s (l.getD k 0) (idAt s k)))
def goodP (s : Stem) (l : List Int) : Prop := l.length = s.copies.length ∧ ∀ k, k < s.copies.length → badP s l k = false
theorem place_lt (s : Stem) (id : Int) : place s id < s.copies.length := by
  unfold place idxC
  cases h : s.copies.findIdx? (fun c => c.id == id) with
  | none => show (-1 : Int) < _; omega
  | some k =>
    rw [List.findIdx?_eq_some_iff_getElem] at h
    have := h.1
    show (k : Int) < _; omega
theorem place_ge (s : Stem) (id : Int) : -1 ≤ place s id := by
  unfold place idxC
  cases h : s.copies.findIdx? (fun c => c.id == id) with
  | none => exact Int.le_refl _
  | some k => show (-1 : Int) ≤ k; omega
/-- Are the Ids those of a pedigree? -/
def isPed (s : Stem) (l : List Int) : Prop := goodP s l ∧ rootedB s.copies.length (parF s l) = true
def parsP (s : Stem) (l : List Int) : PV := intsF (Nat.beq s.copies.length 0) s.copies.length (parF s l)
open Classical in
noncomputable def parsV (s : Stem) (l : List Int) : AV := if goodP s l then .tup [.p (parsP s l), bv (rootedB s.copies.length (parF s l))] else .tup [.p (.lst 0 true 0 fun _ => []), bv false]
open Classical in
theorem parentsOf_ok {s : Stem} {b : Bool} {l : List Int} (hs : s.Ok) (hv : s.Valid) (hl : l.length < 9223372036854775808) : VP (sE r) 57 [.agg ((eStem s).map .p), .p (eInts b l)] (parsV s l) := by
  have hn : s.copies.length ≤ 7 := hv.c
  have ho : (parsV s l).only (fun _ => false) = true := by
    unfold parsV
    split <;> rfl
  have no : ¬ goodP s l → parsV s l = .tup [.p (.lst 0 true 0 fun _ => []), bv false] := fun h => if_neg h
  refine VP.of (fn := Try.f57) tb_ok rfl (by kernel_rfl) rfl rfl ho ?_
  refine VSt.run tb_ok false [] 200 rfl trivial ?_
  refine VSt.cond rfl (fun h => ?_) (fun h => ?_)
  · have h : ¬ l.length = s.copies.length := fun e => by
      have h2 : (!(Int.ofNat l.length == Int.ofNat s.copies.length)) = true := h
      rw [e, beq_self_eq_true] at h2; exact absurd h2 (by decide)
    refine VSt.run tb_ok false [] 200 rfl trivial ?_
    refine ⟨rfl, _, rfl, rfl, ?_⟩
    rw [no (fun g => h g.1)]
    exact AImp.tup ⟨AImp.nil, AImp.refl _, trivial⟩
  have hlen : l.length = s.copies.length := by
    have h2 : (!(Int.ofNat l.length == Int.ofNat s.copies.length)) = false := h
    have h3 : Int.ofNat l.length = Int.ofNat s.copies.length := by simpa using h2
    exact Int.ofNat_inj.1 h3
  refine VSt.run tb_ok false [] 200 rfl trivial ?_
  refine VSt.viewC (Wk.vw (ps := [(0, 0)]) (F0 := [(2, .ref 0 0), (6, .p (.lst 0 true 0 fun _ => [])), (16, .p (eInts b l)), (17, nv l.length), (18, nv 0)]) (L0 := [(0, .cells ((eStem s).map .p) 27)])
    ⟨rfl, rfl, wf_back rfl rfl rfl (wf_imp rfl rfl AImp.nil (by repeat (first | exact wf_nil | refine wf_back rfl rfl rfl ?_))), _, rfl, LImp.refl _⟩) ?_
  refine VSt.viewC (Vw.freezeC 0 (eStem s) rfl rfl) ?_
  refine VSt.viewC (Vw.adopt 0 1 (fun k => [.int .i64 (parF s l k)]) 3 rfl) ?_
  refine VSt.rangeF tb_ok l.length (by omega) (fun k => [(2, .p (.fp (eStem s) 0)), (6, .acc true 0 1 k), (16, .p (eInts b l))]) (fun k => [(0, .acc k 1 (fun k => [.int .i64 (parF s l k)]) 3)]) (fun k => ∀ i, i < k → badP s l i = false) rfl rfl (fun _ => rfl) ?_ (fun i hi => absurd hi (Nat.not_lt_zero i)) (fun k hk hp => ?_) (fun hp => ?_)
  · exact Wk.vw (ps := [(0, 0)]) ⟨rfl, rfl, wf_back rfl rfl rfl (wf_back rfl rfl rfl (wf_back rfl rfl rfl (wf_imp rfl rfl AImp.nilAcc (by repeat (first | exact wf_nil | refine wf_back rfl rfl rfl ?_))))), _, rfl, LImp.refl _⟩
  · have hks : k < s.copies.length := by omega
    have app : ∀ q, q < k + 1 → (bif Nat.blt q k then (fun k => [PV.int .i64 (parF s l k)]) q else ([PV.int .i64 (place s (l.getD k 0))].drop ((q - k) * 1)).take 1) = (fun k => [PV.int .i64 (parF s l k)]) q := fun q hq => app_one (f := fun k => [PV.int .i64 (parF s l k)]) rfl hq
    have badg : badP s l k = true → ¬ goodP s l := fun h g => by rw [g.2 k hks] at h; cases h
    have hpb : badP s l k = false → ∀ i, i < k + 1 → badP s l i = false := fun h i hi => by
      by_cases e : i = k
      · subst e; exact h
      · exact hp i (by omega)
    refine VSt.run tb_ok false [] 200 rfl (⟨hk, rfl⟩) ?_
    first | refine VSt.pc rfl rfl rfl rfl rfl rfl rfl rfl ((index_ok s (l.getD k 0) hs.c)) ?_ | refine VSt.pcD rfl rfl rfl rfl rfl rfl rfl rfl ((index_ok s (l.getD k 0) hs.c)) ?_
    refine VSt.run tb_ok false [] 200 rfl trivial ?_
    first | refine VSt.splitO 28 rfl (fun h1 => ?_) (fun h1 => ?_) | refine VSt.splitD 28 rfl (fun h1 => ?_) (fun h1 => ?_)
    · have h1 : (!(l.getD k 0 == 0)) = true := h1
      refine VSt.run tb_ok false [] 200 rfl trivial ?_
      first | refine VSt.splitO 31 rfl (fun h2 => ?_) (fun h2 => ?_) | refine VSt.splitD 31 rfl (fun h2 => ?_) (fun h2 => ?_)
      · have h2 : decide (parF s l k < 0) = true := h2
        have hb : badP s l k = true := by unfold badP; rw [h1, h2]; rfl
        refine VSt.run tb_ok false [] 200 rfl trivial ?_
        refine ⟨rfl, _, rfl, rfl, ?_⟩
        rw [no (badg hb)]
        exact AImp.tup ⟨AImp.nil, AImp.refl _, trivial⟩
      · have h2 : decide (parF s l k < 0) = false := h2
        refine VSt.run tb_ok false [] 200 rfl trivial ?_
        first | refine VSt.splitO 36 rfl (fun h3 => ?_) (fun h3 => ?_) | refine VSt.splitD 36 rfl (fun h3 => ?_) (fun h3 => ?_)
        · have h3 : (parF s l k == Int.ofNat k) = true := h3
          have hb : badP s l k = true := by unfold badP; rw [h1, h2, h3]; rfl
          refine VSt.run tb_ok false [] 200 rfl trivial ?_
          refine ⟨rfl, _, rfl, rfl, ?_⟩
          rw [no (badg hb)]
          exact AImp.tup ⟨AImp.nil, AImp.refl _, trivial⟩
        · have h3 : (parF s l k == Int.ofNat k) = false := h3
          refine VSt.run tb_ok false [] 200 rfl (⟨hks, rfl⟩) ?_
          first | refine VSt.pc rfl rfl rfl rfl rfl rfl rfl rfl ((contN_ok s (l.getD k 0) (idAt s k) hs.n)) ?_ | refine VSt.pcD rfl rfl rfl rfl rfl rfl rfl rfl ((contN_ok s (l.getD k 0) (idAt s k) hs.n)) ?_
          refine VSt.run tb_ok false [] 200 rfl trivial ?_
          refine VSt.cond rfl (fun h4 => ?_) (fun h4 => ?_)
          · have h4 : isNever s (l.getD k 0) (idAt s k) = true := h4
            have hb : badP s l k = true := by unfold badP; rw [h1, h2, h3, h4]; rfl
            refine VSt.run tb_ok false [] 200 rfl trivial ?_
            refine ⟨rfl, _, rfl, rfl, ?_⟩
            rw [no (badg hb)]
            exact AImp.tup ⟨AImp.nil, AImp.refl _, trivial⟩
          · have h4 : isNever s (l.getD k 0) (idAt s k) = false := h4
            have hb : badP s l k = false := by unfold badP; rw [h1, h2, h3, h4]; rfl
            refine VSt.run tb_ok false [] 200 rfl (⟨by decide, by omega, (fun q hq => by match q, hq with | 0, _ => rfl), rfl, rfl, rfl⟩) ?_
            exact ⟨Wk.vw (ps := [(0, 1)]) ⟨rfl, rfl, (by repeat (first | exact wf_nil | refine wf_back rfl rfl rfl ?_)), _, rfl, ⟨rfl, BImp.acc rfl app, trivial⟩⟩, hpb hb⟩
    · have h1 : (!(l.getD k 0 == 0)) = false := h1
      have hb : badP s l k = false := by unfold badP; rw [h1]; rfl
      refine VSt.run tb_ok false [] 200 rfl (⟨by decide, by omega, (fun q hq => by match q, hq with | 0, _ => rfl), rfl, rfl, rfl⟩) ?_
      exact ⟨Wk.vw (ps := [(0, 1)]) ⟨rfl, rfl, (by repeat (first | exact wf_nil | refine wf_back rfl rfl rfl ?_)), _, rfl, ⟨rfl, BImp.acc rfl app, trivial⟩⟩, hpb hb⟩
  · have good : goodP s l := ⟨hlen, fun k hk => hp k (by omega)⟩
    refine VSt.viewC (Wk.vw (ps := [(0, 0)]) (F0 := [(6, .acc true 0 1 l.length)]) (L0 := [(0, .acc l.length 1 (fun k => [.int .i64 (parF s l k)]) 3)]) ⟨rfl, rfl, (by repeat (first | exact wf_nil | refine wf_back rfl rfl rfl ?_)), _, rfl, LImp.refl _⟩) ?_
    refine VSt.viewC (Vw.freezeA 0 rfl rfl ⟨Nat.le_refl _, rfl⟩) ?_
    refine VSt.run tb_ok false [] 200 rfl trivial ?_
    first | refine VSt.pc rfl rfl rfl rfl rfl rfl rfl rfl ((isRooted_ok (b := true && Nat.beq l.length 0) (n := l.length) (p := parF s l) (by omega) (fun k _ => by have := place_lt s (l.getD k 0); unfold parF; omega))) ?_ | refine VSt.pcD rfl rfl rfl rfl rfl rfl rfl rfl ((isRooted_ok (b := true && Nat.beq l.length 0) (n := l.length) (p := parF s l) (by omega) (fun k _ => by have := place_lt s (l.getD k 0); unfold parF; omega))) ?_
    refine VSt.run tb_ok false [] 200 rfl trivial ?_
    refine ⟨rfl, _, rfl, rfl, ?_⟩
    rw [show parsV s l = _ from if_pos good]
    show AImp (.tup [.p (intsF (true && Nat.beq l.length 0) l.length (parF s l)), bv (rootedB l.length (parF s l))]) _
    rw [hlen]
    exact AImp.refl _
end Go.Proofs.Ytncpeobcgmkkbaa
/- Walks: a pedigree, what it costs, the first least one. -/
set_option maxRecDepth 100000
namespace Go.Proofs.Ytncpeobcgmkkbaa
variable {r : Tr (List Value × TypeId)}
open Classical in
/-- The error of a pedigree. -/
noncomputable def pedE (s : Stem) (l : List Int) : Int := if ckStem s = 0 then (if isPed s l then 0 else 43) else ckStem s
theorem pedE_of {s : Stem} {l : List Int} (h : pedE s l = 0) : ckStem s = 0 ∧ isPed s l := by
  unfold pedE at h
  split at h
  · rename_i h0
    split at h
    · rename_i h1; exact ⟨h0, h1⟩
    · exact absurd h (by decide)
  · rename_i h0; exact absurd h h0
open Classical in
theorem pedigree_ok {s : Stem} {b : Bool} {l : List Int} (hs : s.Ok) (hl : l.length < 9223372036854775808) : VP (sE r) 36 [.agg ((eStem s).map .p), .p (eInts b l)] (.tup [if pedE s l = 0 then .p (parsP s l) else .p (.lst 0 true 0 fun _ => []), iv (pedE s l)]) := by
  have ho : AV.only (fun _ => false) (.tup [if pedE s l = 0 then .p (parsP s l) else .p (.lst 0 true 0 fun _ => []), iv (pedE s l)]) = true := by
    by_cases h : pedE s l = 0
    · rw [if_pos h]; rfl
    · rw [if_neg h]; rfl
  refine VP.of (fn := Try.f36) tb_ok rfl (by kernel_rfl) rfl rfl ho ?_
  refine VSt.run tb_ok false [] 200 rfl trivial ?_
  first | refine VSt.pc rfl rfl rfl rfl rfl rfl rfl rfl ((check_ok s hs)) ?_ | refine VSt.pcD rfl rfl rfl rfl rfl rfl rfl rfl ((check_ok s hs)) ?_
  refine VSt.run tb_ok false [] 200 rfl trivial ?_
  refine VSt.cond rfl (fun h1 => ?_) (fun h1 => ?_)
  · have h0 : ¬ ckStem s = 0 := by simpa using h1
    refine VSt.run tb_ok false [] 200 rfl trivial ?_
    refine ⟨rfl, _, rfl, rfl, ?_⟩
    have e : pedE s l = ckStem s := if_neg h0
    rw [e, if_neg h0]
    exact AImp.tup ⟨AImp.nil, AImp.refl _, trivial⟩
  have h0 : ckStem s = 0 := by simpa using h1
  have hv := valid_of h0
  have hp := parentsOf_ok (r := r) (b := b) hs hv hl
  refine VSt.run tb_ok false [] 200 rfl trivial ?_
  by_cases hg : goodP s l
  · rw [show parsV s l = _ from if_pos hg] at hp
    first | refine VSt.pc rfl rfl rfl rfl rfl rfl rfl rfl (hp) ?_ | refine VSt.pcD rfl rfl rfl rfl rfl rfl rfl rfl (hp) ?_
    refine VSt.run tb_ok false [] 200 rfl trivial ?_
    refine VSt.cond rfl (fun h2 => ?_) (fun h2 => ?_)
    · have h2 : (!rootedB s.copies.length (parF s l)) = true := h2
      have e : pedE s l = 43 := by unfold pedE; rw [if_pos h0, if_neg (fun q => by rw [q.2] at h2; cases h2)]
      refine VSt.run tb_ok false [] 200 rfl trivial ?_
      refine ⟨rfl, _, rfl, rfl, ?_⟩
      rw [e, if_neg (by decide)]
      exact AImp.tup ⟨AImp.nil, AImp.refl _, trivial⟩
    · have h2 : (!rootedB s.copies.length (parF s l)) = false := h2
      have e : pedE s l = 0 := by unfold pedE; rw [if_pos h0, if_pos ⟨hg, by simpa using h2⟩]
      refine VSt.run tb_ok false [] 200 rfl trivial ?_
      refine ⟨rfl, _, rfl, rfl, ?_⟩
      rw [e, if_pos rfl]
      exact AImp.refl _
  · rw [show parsV s l = _ from if_neg hg] at hp
    first | refine VSt.pc rfl rfl rfl rfl rfl rfl rfl rfl (hp) ?_ | refine VSt.pcD rfl rfl rfl rfl rfl rfl rfl rfl (hp) ?_
    refine VSt.run tb_ok false [] 200 rfl trivial ?_
    refine VSt.cond rfl (fun h2 => ?_) (fun h2 => absurd h2 (by decide))
    have e : pedE s l = 43 := by unfold pedE; rw [if_pos h0, if_neg (fun q => hg q.1)]
    refine VSt.run tb_ok false [] 200 rfl trivial ?_
    refine ⟨rfl, _, rfl, rfl, ?_⟩
    rw [e, if_neg (by decide)]
    exact AImp.tup ⟨AImp.nil, AImp.refl _, trivial⟩
/-- What the first k copies cost. -/
def costP (s : Stem) (p : Nat → Int) : Nat → Int
  | 0 => 0
  | k + 1 => bif decide (0 ≤ p k) then costP s p k + costI s (p k).toNat k else costP s p k
theorem costP_bd {s : Stem} (hv : s.Valid) {p : Nat → Int} (hp : ∀ k, k < s.copies.length → p k < s.copies.length) : ∀ k, k ≤ s.copies.length → 0 ≤ costP s p k ∧ costP s p k ≤ 1600 * k
  | 0, _ => by simp [costP]
  | k + 1, h => by
    have ih := costP_bd hv hp k (by omega)
    unfold costP
    cases hd : decide (0 ≤ p k) with
    | true =>
      have h0 := of_decide_eq_true hd
      have := hp k (by omega)
      have := costI_bd hv (i := (p k).toNat) (k := k) (by omega)
      simp only [cond_true]; omega
    | false => simp only [cond_false]; omega
open Classical in
noncomputable def costOfI (s : Stem) (l : List Int) : Int := if pedE s l = 0 then costP s (parF s l) s.copies.length else 0
open Classical in
theorem CostOf_ok {s : Stem} {b : Bool} {l : List Int} (hs : s.Ok) (hl : l.length < 9223372036854775808) : VP (sE r) 10 [.agg ((eStem s).map .p), .p (eInts b l)] (.tup [iv (costOfI s l), iv (pedE s l)]) := by
  have hp := pedigree_ok (r := r) (b := b) hs hl
  refine VP.of (fn := Try.f10) tb_ok rfl (by kernel_rfl) rfl rfl rfl ?_
  refine VSt.run tb_ok false [] 200 rfl trivial ?_
  by_cases h : pedE s l = 0
  · rw [if_pos h, h] at hp
    have hv := valid_of (pedE_of h).1
    have hn : s.copies.length ≤ 7 := hv.c
    have hpl : ∀ k, k < s.copies.length → parF s l k < s.copies.length := fun k _ => place_lt s _
    have ec : costOfI s l = costP s (parF s l) s.copies.length := if_pos h
    first | refine VSt.pc rfl rfl rfl rfl rfl rfl rfl rfl (hp) ?_ | refine VSt.pcD rfl rfl rfl rfl rfl rfl rfl rfl (hp) ?_
    refine VSt.run tb_ok false [] 200 rfl trivial ?_
    refine VSt.cond rfl (fun h1 => absurd h1 (by decide)) (fun _ => ?_)
    refine VSt.run tb_ok false [] 200 rfl trivial ?_
    refine VSt.viewC (Wk.vw (ps := [(0, 0)]) (F0 := [(2, .ref 0 0), (8, iv 0), (20, .p (parsP s l)), (21, nv s.copies.length), (22, nv 0)]) (L0 := [(0, .cells ((eStem s).map .p) 27)]) ⟨rfl, rfl, (by repeat (first | exact wf_nil | refine wf_back rfl rfl rfl ?_)), _, rfl, LImp.refl _⟩) ?_
    refine VSt.viewC (Vw.freezeC 0 (eStem s) rfl rfl) ?_
    refine VSt.rangeF tb_ok s.copies.length (by omega) (fun k => [(2, .p (.fp (eStem s) 0)), (8, iv (costP s (parF s l) k)), (20, .p (parsP s l))]) (fun _ => []) (fun _ => True) rfl rfl (fun _ => rfl) ?_ trivial (fun k hk _ => ?_) (fun _ => ?_)
    · (refine Vw.sub' (subK (by repeat (first | exact sk_nil | refine sk_cons rfl ?_))))
    · have hk1 := hpl k hk
      have hb := costP_bd hv hpl k (Nat.le_of_lt hk)
      refine VSt.run tb_ok false [] 200 rfl (⟨hk, rfl⟩) ?_
      refine VSt.cond rfl (fun h1 => ?_) (fun h1 => ?_)
      · have h1 : decide (0 ≤ parF s l k) = true := h1
        have h2 := of_decide_eq_true h1
        have hc := costI_bd hv (i := (parF s l k).toNat) (k := k) (by omega)
        have e : costP s (parF s l) (k + 1) = costP s (parF s l) k + costI s (parF s l k).toNat k := by rw [costP, h1]; rfl
        have e2 : parF s l k = Int.ofNat (parF s l k).toNat := by simp only [Int.ofNat_eq_natCast]; omega
        refine VSt.run tb_ok false [33] 200 rfl trivial ?_
        first | refine VSt.putO 31 (nv (parF s l k).toNat) rfl (iv_nv e2) ?_ | refine VSt.putD 31 (nv (parF s l k).toNat) rfl (iv_nv e2) ?_ | refine VSt.putC 31 (nv (parF s l k).toNat) rfl (iv_nv e2) ?_
        first | refine VSt.pc rfl rfl rfl rfl rfl rfl rfl rfl ((cost_ok hv (i := (parF s l k).toNat) (j := k) (by omega) hk)) ?_ | refine VSt.pcD rfl rfl rfl rfl rfl rfl rfl rfl ((cost_ok hv (i := (parF s l k).toNat) (j := k) (by omega) hk)) ?_
        refine VSt.run tb_ok false [] 200 rfl trivial ?_
        first | refine VSt.pc rfl rfl rfl rfl rfl rfl rfl rfl ((VP.imp (sum_ok (b := false) (l := [costP s (parF s l) k, costI s (parF s l k).toNat k]) (by show 2 < 1000000; decide) (fun q hq => by match q, hq with | 0, _ => exact ⟨hb.1, by show costP s (parF s l) k ≤ _; omega⟩ | 1, _ => exact ⟨hc.1, by show costI s (parF s l k).toNat k ≤ _; omega⟩)) ⟨AImp.lst fun q hq => bs_ints [costP s (parF s l) k, costI s (parF s l k).toNat k] q hq, trivial⟩)) ?_ | refine VSt.pcD rfl rfl rfl rfl rfl rfl rfl rfl ((VP.imp (sum_ok (b := false) (l := [costP s (parF s l) k, costI s (parF s l k).toNat k]) (by show 2 < 1000000; decide) (fun q hq => by match q, hq with | 0, _ => exact ⟨hb.1, by show costP s (parF s l) k ≤ _; omega⟩ | 1, _ => exact ⟨hc.1, by show costI s (parF s l k).toNat k ≤ _; omega⟩)) ⟨AImp.lst fun q hq => bs_ints [costP s (parF s l) k, costI s (parF s l k).toNat k] q hq, trivial⟩)) ?_
        refine VSt.run tb_ok false [] 200 rfl trivial ?_
        have e3 : sumTo (fun q => ([costP s (parF s l) k, costI s (parF s l k).toNat k] : List Int).getD q 0) ([costP s (parF s l) k, costI s (parF s l k).toNat k] : List Int).length = costP s (parF s l) (k + 1) := by
          rw [e]
          show 0 + costP s (parF s l) k + costI s (parF s l k).toNat k = _
          rw [Int.zero_add]
        refine ⟨?_, trivial⟩
        dsimp only
        rw [← e3]
        (refine Vw.sub' (subK (by repeat (first | exact sk_nil | refine sk_cons rfl ?_))))
      · have h1 : decide (0 ≤ parF s l k) = false := h1
        have e : costP s (parF s l) (k + 1) = costP s (parF s l) k := by rw [costP, h1]; rfl
        refine VSt.run tb_ok false [] 200 rfl trivial ?_
        refine ⟨?_, trivial⟩
        dsimp only
        rw [e]
        (refine Vw.sub' (subK (by repeat (first | exact sk_nil | refine sk_cons rfl ?_))))
    · refine VSt.run tb_ok false [] 200 rfl trivial ?_
      refine EndsP.mk rfl rfl rfl ?_
      rw [ec, h]; rfl
  · rw [if_neg h] at hp
    have ec : costOfI s l = 0 := if_neg h
    first | refine VSt.pc rfl rfl rfl rfl rfl rfl rfl rfl (hp) ?_ | refine VSt.pcD rfl rfl rfl rfl rfl rfl rfl rfl (hp) ?_
    refine VSt.run tb_ok false [] 200 rfl trivial ?_
    refine VSt.cond rfl (fun h1 => ?_) (fun h1 => ?_)
    · refine VSt.run tb_ok false [] 200 rfl trivial ?_
      refine EndsP.mk rfl rfl rfl ?_
      rw [ec]; rfl
    · have h1 : (!(pedE s l == 0)) = false := h1
      exact absurd (by simpa using h1) h
end Go.Proofs.Ytncpeobcgmkkbaa
/- Walks: the errors of a pedigree. -/
set_option maxRecDepth 100000
namespace Go.Proofs.Ytncpeobcgmkkbaa
variable {r : Tr (List Value × TypeId)}
structure Slip where
  copy : Int
  place : Nat
  src : Int
  dst : Int
instance : Inhabited Slip := ⟨⟨0, 0, 0, 0⟩⟩
def eSlip (x : Slip) : List PV := [.int .i64 x.copy, .int .i64 (Int.ofNat x.place), .int .i64 x.src, .int .i64 x.dst]
def fSl (l : List Slip) : Nat → List PV := fun q => eSlip (l.getD q default)
def eSlips (b : Bool) (l : List Slip) : PV := .lst 41 b l.length (fSl l)
/-- The errors at the first k places. -/
def slipsF (s : Stem) (i j : Nat) : Nat → List Slip
  | 0 => []
  | k + 1 => bif wd s i k == wd s j k then slipsF s i j k else slipsF s i j k ++ [⟨idAt s j, k, wd s i k, wd s j k⟩]
theorem slipsF_len (s : Stem) (i j : Nat) : ∀ k, (slipsF s i j k).length ≤ k
  | 0 => Nat.le_refl _
  | k + 1 => by
    have := slipsF_len s i j k
    unfold slipsF
    cases wd s i k == wd s j k with
    | true => exact Nat.le_succ_of_le this
    | false => simp only [cond_false, List.length_append, List.length_singleton]; omega
/-- The errors of the first k copies. -/
def allF (s : Stem) (p : Nat → Int) : Nat → List Slip
  | 0 => []
  | k + 1 => bif decide (p k < 0) then allF s p k else allF s p k ++ slipsF s (p k).toNat k (s.copies.getD k default).words.length
theorem allF_len {s : Stem} (hv : s.Valid) (p : Nat → Int) : ∀ k, k ≤ s.copies.length → (allF s p k).length ≤ 16 * k
  | 0, _ => Nat.le_refl _
  | k + 1, h => by
    have := allF_len hv p k (by omega)
    have h2 := slipsF_len s (p k).toNat k (s.copies.getD k default).words.length
    have h3 := (ckCopy_of (hv.copy (k := k) (by omega))).2.1
    unfold allF
    cases decide (p k < 0) with
    | true => simp only [cond_true]; omega
    | false => simp only [cond_false, List.length_append]; omega
theorem app_slip (l : List Slip) (y : Slip) (q : Nat) (hq : q < l.length + 1) : (bif Nat.blt q l.length then fSl l q else ((eSlip y).drop ((q - l.length) * 4)).take 4) = fSl (l ++ [y]) q := by
  unfold fSl
  by_cases e : q < l.length
  · rw [blt_t e]
    simp only [cond_true, List.getD_eq_getElem?_getD]
    rw [List.getElem?_append_left e]
  · have : q = l.length := by omega
    subst this
    rw [blt_f e, Nat.sub_self]
    simp [eSlip]
def memSl (l : List Slip) : VS := [(1, .cells [.acc true 2 4 l.length] 35), (2, .acc l.length 4 (fSl l) 41)]
open Classical in
noncomputable def slipsV (s : Stem) (l : List Int) : PV := if pedE s l = 0 then eSlips (allF s (parF s l) s.copies.length).isEmpty (allF s (parF s l) s.copies.length) else .lst 0 true 0 fun _ => []
open Classical in
theorem Slips_ok {s : Stem} {b : Bool} {l : List Int} (hs : s.Ok) (hl : l.length < 9223372036854775808) : VP (sE r) 9 [.agg ((eStem s).map .p), .p (eInts b l)] (.tup [.p (slipsV s l), iv (pedE s l)]) := by
  have hp := pedigree_ok (r := r) (b := b) hs hl
  refine VP.of (fn := Try.f9) tb_ok rfl (by kernel_rfl) rfl rfl rfl ?_
  refine VSt.run tb_ok false [] 200 rfl trivial ?_
  by_cases h : pedE s l = 0
  · rw [if_pos h, h] at hp
    have hv := valid_of (pedE_of h).1
    have hn : s.copies.length ≤ 7 := hv.c
    have hpl : ∀ k, k < s.copies.length → parF s l k < s.copies.length := fun k _ => place_lt s _
    first | refine VSt.pc rfl rfl rfl rfl rfl rfl rfl rfl (hp) ?_ | refine VSt.pcD rfl rfl rfl rfl rfl rfl rfl rfl (hp) ?_
    refine VSt.run tb_ok false [] 200 rfl trivial ?_
    refine VSt.cond rfl (fun h1 => absurd h1 (by decide)) (fun _ => ?_)
    refine VSt.run tb_ok false [] 200 rfl trivial ?_
    refine VSt.viewC (Wk.vw (ps := [(0, 0), (1, 1)]) (F0 := [(2, .ref 0 0), (8, .ref 1 0), (23, .p (parsP s l)), (24, nv s.copies.length), (25, nv 0)]) (L0 := [(0, .cells ((eStem s).map .p) 27), (1, .cells [.p (.lst 0 true 0 fun _ => [])] 35)]) ⟨rfl, rfl, (by repeat (first | exact wf_nil | refine wf_back rfl rfl rfl ?_)), _, rfl, LImp.refl _⟩) ?_
    refine VSt.viewC (Vw.freezeC 0 (eStem s) rfl rfl) ?_
    refine VSt.viewC (Vw.adopt 2 4 (fSl []) 41 rfl) ?_
    refine VSt.rangeF tb_ok s.copies.length (by omega) (fun k => [(2, .p (.fp (eStem s) 0)), (8, .ref 1 0), (23, .p (parsP s l))]) (fun k => memSl (allF s (parF s l) k)) (fun _ => True) rfl rfl (fun _ => rfl) ?_ trivial (fun k hk _ => ?_) (fun _ => ?_)
    · exact Wk.vw (ps := [(1, 1), (2, 2)]) ⟨rfl, rfl, (by repeat (first | exact wf_nil | refine wf_back rfl rfl rfl ?_)), _, rfl, ⟨rfl, BImp.cell1 AImp.nilAcc, rfl, BImp.refl _, trivial⟩⟩
    · have hk1 := hpl k hk
      refine VSt.run tb_ok false [] 200 rfl (⟨hk, rfl⟩) ?_
      refine VSt.cond rfl (fun h1 => ?_) (fun h1 => ?_)
      · have h1 : decide (parF s l k < 0) = true := h1
        have e : allF s (parF s l) (k + 1) = allF s (parF s l) k := by rw [allF, h1]; rfl
        refine VSt.run tb_ok false [] 200 rfl trivial ?_
        refine ⟨?_, trivial⟩
        dsimp only
        rw [e]
        exact Wk.vw (ps := [(1, 1), (2, 2)]) ⟨rfl, rfl, (by repeat (first | exact wf_nil | refine wf_back rfl rfl rfl ?_)), _, rfl, LImp.refl _⟩
      · have h1 : decide (parF s l k < 0) = false := h1
        have h2 := of_decide_eq_false h1
        have e2 : parF s l k = Int.ofNat (parF s l k).toNat := by simp only [Int.ofNat_eq_natCast]; omega
        first | refine VSt.putO 10 (nv (parF s l k).toNat) rfl (iv_nv e2) ?_ | refine VSt.putD 10 (nv (parF s l k).toNat) rfl (iv_nv e2) ?_ | refine VSt.putC 10 (nv (parF s l k).toNat) rfl (iv_nv e2) ?_
        refine VSt.run tb_ok false [] 200 rfl (⟨(show (parF s l k).toNat < s.copies.length by omega), rfl, hk, rfl⟩) ?_
        have hi : (parF s l k).toNat < s.copies.length := by omega
        have hwa := hv.words hi
        have hwb := hv.words hk
        have hl0 := (ckCopy_of (hv.copy hk)).2.1
        have hal := allF_len hv (parF s l) k (Nat.le_of_lt hk)
        have e : allF s (parF s l) (k + 1) = allF s (parF s l) k ++ slipsF s (parF s l k).toNat k (s.copies.getD k default).words.length := by rw [allF, h1]; rfl
        refine VSt.viewO (Wk.vw (ps := [(1, 1), (2, 2), (3, 3), (4, 4)]) (F0 := [(42, .agg ((eCopy (s.copies.getD (parF s l k).toNat default)).map .p)), (43, .agg ((eCopy (s.copies.getD k default)).map .p)), (2, .p (.fp (eStem s) 0)), (8, .ref 1 0), (11, .ref 3 0), (12, .ref 4 0), (23, .p (parsP s l)), (24, nv s.copies.length), (25, nv k)])
          (L0 := [(1, .cells [.acc true 2 4 (allF s (parF s l) k).length] 35), (2, .acc (allF s (parF s l) k).length 4 (fSl (allF s (parF s l) k)) 41), (3, .cells ((eCopy (s.copies.getD (parF s l k).toNat default)).map .p) 47), (4, .cells ((eCopy (s.copies.getD k default)).map .p) 47)])
          ⟨rfl, rfl, (by repeat (first | exact wf_nil | refine wf_back rfl rfl rfl ?_)), _, rfl, LImp.refl _⟩) ?_
        refine VSt.viewO (Vw.freezeC 3 (eCopy (s.copies.getD (parF s l k).toNat default)) rfl rfl) ?_
        refine VSt.viewO (Vw.freezeC 4 (eCopy (s.copies.getD k default)) rfl rfl) ?_
        first | refine VSt.pc rfl rfl rfl rfl rfl rfl rfl rfl ((slips_ok (s.copies.getD (parF s l k).toNat default) (s.copies.getD k default))) ?_ | refine VSt.pcD rfl rfl rfl rfl rfl rfl rfl rfl ((slips_ok (s.copies.getD (parF s l k).toNat default) (s.copies.getD k default))) ?_
        refine VSt.run tb_ok false [] 200 rfl trivial ?_
        refine VSt.viewC (Wk.vw (ps := [(1, 1), (2, 2)]) (F0 := [(44, .fn 58 [] [.p (.fp (eCopy (s.copies.getD k default)) 0), .p (.fp (eCopy (s.copies.getD (parF s l k).toNat default)) 0)]), (2, .p (.fp (eStem s) 0)), (8, .ref 1 0), (11, .p (.fp (eCopy (s.copies.getD (parF s l k).toNat default)) 0)), (12, .p (.fp (eCopy (s.copies.getD k default)) 0)), (23, .p (parsP s l)), (24, nv s.copies.length), (25, nv k)]) (L0 := memSl (allF s (parF s l) k)) ⟨rfl, rfl, (by repeat (first | exact wf_nil | refine wf_back rfl rfl rfl ?_)), _, rfl, LImp.refl _⟩) ?_
        refine VSt.rangeFuncG [(0, 3), (1, 1), (2, 2)] (stc := [0, 1]) rfl rfl rfl rfl rfl rfl rfl rfl (slips1_ok (s.copies.getD (parF s l k).toNat default) (s.copies.getD k default) (by omega) (by omega) (G1 := fun q => (45, nv q) :: [(44, .fn 58 [] [.p (.fp (eCopy (s.copies.getD k default)) 0), .p (.fp (eCopy (s.copies.getD (parF s l k).toNat default)) 0)]), (2, .p (.fp (eStem s) 0)), (8, .ref 1 0), (11, .p (.fp (eCopy (s.copies.getD (parF s l k).toNat default)) 0)), (12, .p (.fp (eCopy (s.copies.getD k default)) 0)), (23, .p (parsP s l)), (24, nv s.copies.length), (25, nv k)]) (fun q L => L = memSl (allF s (parF s l) k ++ slipsF s (parF s l k).toNat k q)) (by rw [slipsF, List.append_nil]; rfl) (fun q => rfl) ?_ ?_) ?_
        · intro q L hq he hI
          subst hI
          have e3 : slipsF s (parF s l k).toNat k (q + 1) = slipsF s (parF s l k).toNat k q := by
            rw [slipsF, show (wd s (parF s l k).toNat q == wd s k q) = true from he]; rfl
          rw [e3]
        · intro q L rd1 hq he hI
          subst hI
          have hqa : q < (s.copies.getD (parF s l k).toNat default).words.length := by omega
          have hsl := slipsF_len s (parF s l k).toNat k q
          have hlen : (allF s (parF s l) k ++ slipsF s (parF s l k).toNat k q).length ≤ 1000 := by rw [List.length_append]; omega
          have e3 : allF s (parF s l) k ++ slipsF s (parF s l k).toNat k (q + 1) = (allF s (parF s l) k ++ slipsF s (parF s l k).toNat k q) ++ [⟨idAt s k, q, wd s (parF s l k).toNat q, wd s k q⟩] := by
            rw [slipsF, show (wd s (parF s l k).toNat q == wd s k q) = false from he, List.append_assoc]; rfl
          have hN : (allF s (parF s l) k ++ slipsF s (parF s l k).toNat k (q + 1)).length = (allF s (parF s l) k ++ slipsF s (parF s l k).toNat k q).length + 1 := by rw [e3, List.length_append]; rfl
          refine VSt.run tb_ok false [] 200 rfl trivial ?_
          refine ⟨rfl, _, rfl, ?_⟩
          refine VSt.run tb_ok false [] 200 rfl (⟨hqa, rfl, hq, rfl, by decide, (by omega), (fun q hq => by match q, hq with | 0, _ => rfl), rfl, rfl, rfl⟩) ?_
          refine ⟨rfl, [], _, Wk.vw (ps := [(0, 0), (1, 1), (2, 3)]) (L0 := (0, _) :: memSl (allF s (parF s l) k ++ slipsF s (parF s l k).toNat k (q + 1))) ⟨rfl, rfl, wf_nil, _, rfl, ⟨rfl, BImp.refl _, rfl, BImp.cell1 (AImp.acc hN.symm (fun _ => rfl)), rfl, BImp.acc hN.symm (fun x hx => by rw [e3]; exact app_slip _ ⟨idAt s k, q, wd s (parF s l k).toNat q, wd s k q⟩ x hx), trivial⟩⟩, rfl⟩
        · rintro a L' ⟨L, hL, rfl⟩
          subst hL
          refine ⟨_, _, _, _, _, _, _, _, rfl, rfl, rfl, ?_⟩
          refine VSt.run tb_ok false [] 200 rfl trivial ?_
          refine ⟨?_, trivial⟩
          dsimp only
          rw [e]
          exact Wk.vw (ps := [(1, 1), (2, 2)]) ⟨rfl, rfl, (by repeat (first | exact wf_nil | refine wf_back rfl rfl rfl ?_)), _, rfl, LImp.refl _⟩
    · refine VSt.viewC (Wk.vw (ps := [(1, 1), (2, 2)]) (F0 := [(8, .ref 1 0)]) (L0 := memSl (allF s (parF s l) s.copies.length)) ⟨rfl, rfl, (by repeat (first | exact wf_nil | refine wf_back rfl rfl rfl ?_)), _, rfl, LImp.refl _⟩) ?_
      refine VSt.viewC (Vw.freezeA 2 rfl rfl ⟨Nat.le_refl _, rfl⟩) ?_
      refine VSt.run tb_ok false [] 200 rfl trivial ?_
      refine ⟨rfl, _, rfl, rfl, ?_⟩
      have ec : slipsV s l = eSlips (allF s (parF s l) s.copies.length).isEmpty (allF s (parF s l) s.copies.length) := if_pos h
      rw [ec, h]
      refine AImp.tup ⟨AImp.of_eq ?_, AImp.refl _, trivial⟩
      show AV.p (.lst _ (true && Nat.beq (allF s (parF s l) s.copies.length).length 0) _ _) = AV.p (eSlips _ _)
      cases allF s (parF s l) s.copies.length <;> rfl
  · rw [if_neg h] at hp
    have ec : slipsV s l = .lst 0 true 0 fun _ => [] := if_neg h
    first | refine VSt.pc rfl rfl rfl rfl rfl rfl rfl rfl (hp) ?_ | refine VSt.pcD rfl rfl rfl rfl rfl rfl rfl rfl (hp) ?_
    refine VSt.run tb_ok false [] 200 rfl trivial ?_
    refine VSt.cond rfl (fun h1 => ?_) (fun h1 => ?_)
    · refine VSt.run tb_ok false [] 200 rfl trivial ?_
      refine ⟨rfl, _, rfl, rfl, ?_⟩
      rw [ec]
      exact AImp.tup ⟨AImp.nil, AImp.refl _, trivial⟩
    · have h1 : (!(pedE s l == 0)) = false := h1
      exact absurd (by simpa using h1) h
end Go.Proofs.Ytncpeobcgmkkbaa
/- Walks: the first least pedigree; what an error costs. -/
set_option maxRecDepth 100000
namespace Go.Proofs.Ytncpeobcgmkkbaa
variable {r : Tr (List Value × TypeId)}
def firstP (s : Stem) : Nat → Int := (searchS s).least.getD 0 fun _ => 0
/-- The Ids of the parents of the first least pedigree. -/
def pedL (s : Stem) : List Int := (List.range s.copies.length).map fun k => idOf s (firstP s k)
theorem pedL_len (s : Stem) : (pedL s).length = s.copies.length := by simp [pedL]
def pedR (s : Stem) : List Int := if studE s = 0 then pedL s else []
theorem ids_imp (s : Stem) : AImp (.p (idsP s (firstP s))) (.p (eInts false (pedL s))) := by
  show AImp _ (.p (.lst 3 false (pedL s).length _))
  rw [pedL_len]
  refine AImp.lst fun k hk => ?_
  have : (pedL s).getD k 0 = idOf s (firstP s k) := by
    unfold pedL
    rw [List.getD_eq_getElem?_getD, List.getElem?_map, List.getElem?_range hk]; rfl
  rw [this]
theorem Pedigree_ok {s : Stem} (hs : s.Ok) : VP (sE r) 8 [.agg ((eStem s).map .p)] (.tup [.p (eInts (!(studE s == 0)) (pedR s)), iv (studE s)]) := by
  have hst := studied_ok (r := r) hs
  refine VP.of (fn := Try.f8) tb_ok rfl (by kernel_rfl) rfl rfl rfl ?_
  refine VSt.run tb_ok false [] 200 rfl trivial ?_
  by_cases h : studE s = 0
  · rw [if_pos h, h] at hst
    have hck : ckStem s = 0 := by
      unfold studE at h
      split at h
      · assumption
      · exact h
    have hne : (searchS s).least ≠ [] := fun e => by
      unfold studE at h
      rw [if_pos hck, if_pos e] at h; exact absurd h (by decide)
    have hn : s.copies.length ≤ 7 := (valid_of hck).c
    first | refine VSt.pc rfl rfl rfl rfl rfl rfl rfl rfl (hst) ?_ | refine VSt.pcD rfl rfl rfl rfl rfl rfl rfl rfl (hst) ?_
    refine VSt.run tb_ok false [] 200 rfl trivial ?_
    refine VSt.cond rfl (fun h1 => absurd h1 (by decide)) (fun _ => ?_)
    refine VSt.run tb_ok false [] 200 rfl (⟨List.length_pos_iff.2 hne, rfl⟩) ?_
    first | refine VSt.pc rfl rfl rfl rfl rfl rfl rfl rfl ((VP.imp (cloneInt_ok (b := false) (l := pedL s) (fun h => Bool.noConfusion h) (by rw [pedL_len]; omega)) ⟨ids_imp s, trivial⟩)) ?_ | refine VSt.pcD rfl rfl rfl rfl rfl rfl rfl rfl ((VP.imp (cloneInt_ok (b := false) (l := pedL s) (fun h => Bool.noConfusion h) (by rw [pedL_len]; omega)) ⟨ids_imp s, trivial⟩)) ?_
    refine VSt.run tb_ok false [] 200 rfl trivial ?_
    refine ⟨rfl, _, rfl, rfl, ?_⟩
    rw [show pedR s = pedL s from if_pos h, h]
    exact AImp.refl _
  · rw [if_neg h] at hst
    first | refine VSt.pc rfl rfl rfl rfl rfl rfl rfl rfl (hst) ?_ | refine VSt.pcD rfl rfl rfl rfl rfl rfl rfl rfl (hst) ?_
    refine VSt.run tb_ok false [] 200 rfl trivial ?_
    refine VSt.cond rfl (fun h1 => ?_) (fun h1 => ?_)
    · refine VSt.run tb_ok false [] 200 rfl trivial ?_
      refine ⟨rfl, _, rfl, rfl, ?_⟩
      rw [show pedR s = [] from if_neg h, show (!(studE s == 0)) = true by simpa using h]
      exact AImp.tup ⟨AImp.nil, AImp.refl _, trivial⟩
    · have h1 : (!(studE s == 0)) = false := h1
      exact absurd (by simpa using h1) h
/-- What an error costs. -/
def priceI (c : Costs) (a b : Int) : Int := bif b == 0 then c.lose else bif a == 0 then c.gain else bif (a - b == 1) || (b - a == 1) then c.like else c.turn
theorem priceI_eq {c : Costs} {a b : Int} (h : (a == b) = false) : priceI c a b = slipI c a b := by
  unfold slipI; rw [h]; rfl
theorem price_ok (c : Costs) (x : Slip) (ha : 0 ≤ x.src ∧ x.src ≤ 99) (hb : 0 ≤ x.dst ∧ x.dst ≤ 99) : VP (sE r) 11 [.agg ((eCosts c).map .p), .agg ((eSlip x).map .p)] (iv (priceI c x.src x.dst)) := by
  refine VP.of (fn := Try.f11) tb_ok rfl (by kernel_rfl) rfl rfl rfl ?_
  refine VSt.run tb_ok false [] 200 rfl trivial ?_
  refine VSt.cond rfl (fun h1 => ?_) (fun h1 => ?_)
  · have h1 : (x.dst == 0) = true := h1
    refine VSt.run tb_ok false [] 200 rfl trivial ?_
    refine EndsP.mk rfl rfl rfl ?_
    show iv _ = iv _
    unfold priceI; rw [h1]; rfl
  have h1 : (x.dst == 0) = false := h1
  refine VSt.run tb_ok false [] 200 rfl trivial ?_
  refine VSt.cond rfl (fun h2 => ?_) (fun h2 => ?_)
  · have h2 : (x.src == 0) = true := h2
    refine VSt.run tb_ok false [] 200 rfl trivial ?_
    refine EndsP.mk rfl rfl rfl ?_
    show iv _ = iv _
    unfold priceI; rw [h1, h2]; rfl
  have h2 : (x.src == 0) = false := h2
  refine VSt.run tb_ok false [] 200 rfl ((by show inR _; unfold inR; omega)) ?_
  first | refine VSt.splitO 21 rfl (fun h3 => ?_) (fun h3 => ?_) | refine VSt.splitD 21 rfl (fun h3 => ?_) (fun h3 => ?_)
  · have h3 : (x.src - x.dst == 1) = true := h3
    refine VSt.run tb_ok false [] 200 rfl trivial ?_
    refine EndsP.mk rfl rfl rfl ?_
    show iv _ = iv _
    unfold priceI; rw [h1, h2, h3]; rfl
  have h3 : (x.src - x.dst == 1) = false := h3
  refine VSt.run tb_ok false [] 200 rfl ((by show inR _; unfold inR; omega)) ?_
  refine VSt.cond rfl (fun h4 => ?_) (fun h4 => ?_)
  · have h4 : (x.dst - x.src == 1) = true := h4
    refine VSt.run tb_ok false [] 200 rfl trivial ?_
    refine EndsP.mk rfl rfl rfl ?_
    show iv _ = iv _
    unfold priceI; rw [h1, h2, h3, h4]; rfl
  have h4 : (x.dst - x.src == 1) = false := h4
  refine VSt.run tb_ok false [] 200 rfl trivial ?_
  refine EndsP.mk rfl rfl rfl ?_
  show iv _ = iv _
  unfold priceI; rw [h1, h2, h3, h4]; rfl
/-- What errors cost together. -/
def sumPr (c : Costs) (l : List Slip) : Int := (l.map fun x => priceI c x.src x.dst).sum
theorem sumPr_app (c : Costs) (l m : List Slip) : sumPr c (l ++ m) = sumPr c l + sumPr c m := by
  unfold sumPr; rw [List.map_append, List.sum_append]
theorem sumPr_slips (s : Stem) (i j : Nat) : ∀ k, sumPr s.costs (slipsF s i j k) = sumTo (fun q => slipI s.costs (wd s i q) (wd s j q)) k
  | 0 => rfl
  | k + 1 => by
    have ih := sumPr_slips s i j k
    unfold slipsF
    show _ = sumTo (fun q => slipI s.costs (wd s i q) (wd s j q)) k + slipI s.costs (wd s i k) (wd s j k)
    cases h : wd s i k == wd s j k with
    | true =>
      simp only [cond_true]
      rw [ih]
      have : slipI s.costs (wd s i k) (wd s j k) = 0 := by unfold slipI; rw [h]; rfl
      rw [this, Int.add_zero]
    | false =>
      simp only [cond_false]
      rw [sumPr_app, ih]
      have : sumPr s.costs [⟨idAt s j, k, wd s i k, wd s j k⟩] = priceI s.costs (wd s i k) (wd s j k) := by simp [sumPr]
      rw [this, priceI_eq h]
theorem sumPr_all {s : Stem} (hv : s.Valid) {p : Nat → Int} (hp : ∀ k, k < s.copies.length → p k < s.copies.length) : ∀ k, k ≤ s.copies.length → sumPr s.costs (allF s p k) = costP s p k
  | 0, _ => rfl
  | k + 1, h => by
    have ih := sumPr_all hv hp k (by omega)
    unfold allF costP
    by_cases h0 : 0 ≤ p k
    · have := hp k (by omega)
      rw [decide_eq_false (show ¬ p k < 0 by omega), decide_eq_true h0]
      simp only [cond_true, cond_false]
      rw [sumPr_app, ih, sumPr_slips]
      congr 1
      unfold costI
      rw [hv.words (k := k) (by omega), hv.words (k := (p k).toNat) (by omega)]
    · rw [decide_eq_true (show p k < 0 by omega), decide_eq_false h0]
      exact ih
/-- The errors' words are words. -/
theorem slipsF_wd {s : Stem} (hv : s.Valid) {i j : Nat} (hi : i < s.copies.length) (hj : j < s.copies.length) : ∀ k, k ≤ (s.copies.getD j default).words.length → ∀ x ∈ slipsF s i j k, (0 ≤ x.src ∧ x.src ≤ 99) ∧ (0 ≤ x.dst ∧ x.dst ≤ 99) ∧ x.copy = idAt s j ∧ x.place < (s.copies.getD j default).words.length
  | 0, _, x, h => by cases h
  | k + 1, hk, x, h => by
    unfold slipsF at h
    cases hw : wd s i k == wd s j k with
    | true => rw [hw] at h; exact slipsF_wd hv hi hj k (by omega) x h
    | false =>
      rw [hw] at h
      simp only [cond_false, List.mem_append, List.mem_singleton] at h
      rcases h with h | h
      · exact slipsF_wd hv hi hj k (by omega) x h
      · subst h
        have e := (hv.words hj).trans (hv.words hi).symm
        exact ⟨hv.wd hi (by omega), hv.wd hj (by omega), rfl, by show k < _; omega⟩
theorem allF_wd {s : Stem} (hv : s.Valid) {p : Nat → Int} (hp : ∀ k, k < s.copies.length → p k < s.copies.length) : ∀ k, k ≤ s.copies.length → ∀ x ∈ allF s p k, (0 ≤ x.src ∧ x.src ≤ 99) ∧ (0 ≤ x.dst ∧ x.dst ≤ 99) ∧ (∃ j, j < k ∧ x.copy = idAt s j)
  | 0, _, x, h => by cases h
  | k + 1, hk, x, h => by
    have ih := allF_wd hv hp k (by omega)
    have hpk := hp k (by omega)
    unfold allF at h
    cases hd : decide (p k < 0) with
    | true =>
      rw [hd] at h
      obtain ⟨a, b, j, c, d⟩ := ih x h
      exact ⟨a, b, j, by omega, d⟩
    | false =>
      rw [hd] at h
      have h0 := of_decide_eq_false hd
      simp only [cond_false, List.mem_append] at h
      rcases h with h | h
      · obtain ⟨a, b, j, c, d⟩ := ih x h
        exact ⟨a, b, j, by omega, d⟩
      · obtain ⟨a, b, c, _⟩ := slipsF_wd hv (i := (p k).toNat) (by omega) (by omega) _ (Nat.le_refl _) x h
        exact ⟨a, b, k, by omega, c⟩
end Go.Proofs.Ytncpeobcgmkkbaa
/- The search finds just the least trees. -/
set_option maxRecDepth 100000
namespace Go.Proofs.Ytncpeobcgmkkbaa
theorem costP_ext {s : Stem} {p q : Nat → Int} : ∀ {k : Nat}, (∀ j, j < k → p j = q j) → costP s p k = costP s q k
  | 0, _ => rfl
  | k + 1, h => by
    unfold costP
    rw [costP_ext (k := k) (fun j hj => h j (by omega)), h k (by omega)]
theorem rootsN_ext {p q : Nat → Int} : ∀ {k : Nat}, (∀ j, j < k → p j = q j) → rootsN p k = rootsN q k
  | 0, _ => rfl
  | k + 1, h => by
    unfold rootsN
    rw [rootsN_ext (k := k) (fun j hj => h j (by omega)), h k (by omega)]
theorem rootsN_step (p : Nat → Int) (k : Nat) : rootsN p (k + 1) = rootsN p k + (if p k < 0 then 1 else 0) := by
  rw [rootsN]
  by_cases h : p k < 0
  · rw [decide_eq_true h, if_pos h]; rfl
  · rw [decide_eq_false h, if_neg h]; rfl
theorem rootsN_mono (p : Nat → Int) {i : Nat} : ∀ d, rootsN p i ≤ rootsN p (i + d)
  | 0 => Nat.le_refl _
  | d + 1 => by
    have := rootsN_mono p (i := i) d
    rw [← Nat.add_assoc, rootsN_step]
    omega
theorem costP_root {s : Stem} {p : Nat → Int} {k : Nat} (h : p k < 0) : costP s p (k + 1) = costP s p k := by
  rw [costP, decide_eq_false (show ¬ 0 ≤ p k by omega)]; rfl
theorem costP_kid {s : Stem} {p : Nat → Int} {k : Nat} (h : 0 ≤ p k) : costP s p (k + 1) = costP s p k + costI s (p k).toNat k := by
  rw [costP, decide_eq_true h]; rfl
theorem cellM_cost {s : Stem} {i k : Nat} (h : cellM s i k ≠ -1) : cellM s i k = costI s i k := by
  unfold cellM at h ⊢
  split at h
  · exact absurd rfl h
  · rename_i h1
    split at h
    · exact absurd rfl h
    · rename_i h2
      rw [if_neg h1, if_neg h2]
/-- A part of a tree: the parents of the first i copies. -/
structure Part (s : Stem) (p : Nat → Int) (i : Nat) : Prop where
  ge : ∀ k, k < i → -1 ≤ p k
  lt : ∀ k, k < i → p k < s.copies.length
  may : ∀ k, k < i → 0 ≤ p k → cellM s (p k).toNat k ≠ -1
  ac : Acyc p i
  one : rootsN p i ≤ 1
/-- A pedigree, by indices. -/
structure TreeS (s : Stem) (p : Nat → Int) : Prop where
  part : Part s p s.copies.length
  root : rootsN p s.copies.length = 1
theorem leastTo_spec {s : Stem} {c : Nat} : ∀ {k i : Nat}, i < k → cellM s i c ≠ -1 → leastTo s c k ≠ -1 ∧ leastTo s c k ≤ cellM s i c
  | 0, i, h, _ => absurd h (Nat.not_lt_zero i)
  | k + 1, i, h, hc => by
    unfold leastTo
    by_cases e : i = k
    · subst e
      have h1 : (!(cellM s i c == -1)) = true := by simpa using hc
      rw [h1, Bool.true_and]
      cases hb : ((leastTo s c i == -1) || decide (cellM s i c < leastTo s c i)) with
      | true => exact ⟨hc, Int.le_refl _⟩
      | false =>
        simp only [cond_false]
        rw [Bool.or_eq_false_iff] at hb
        have h2 := of_decide_eq_false hb.2
        exact ⟨by simpa using hb.1, by omega⟩
    · have ih := leastTo_spec (s := s) (c := c) (k := k) (i := i) (by omega) hc
      cases hb : ((!(cellM s k c == -1)) && ((leastTo s c k == -1) || decide (cellM s k c < leastTo s c k))) with
      | true =>
        simp only [cond_true]
        rw [Bool.and_eq_true, Bool.or_eq_true] at hb
        obtain ⟨h1, h2⟩ := hb
        refine ⟨by simpa using h1, ?_⟩
        rcases h2 with h2 | h2
        · exact absurd (by simpa using h2) ih.1
        · have := of_decide_eq_true h2; omega
      | false => exact ih
theorem floor_low {s : Stem} (hv : s.Valid) {q : Nat → Int} (hq : TreeS s q) (i : Nat) : ∀ d, i + d ≤ s.copies.length →
    costP s q i + (floorT s i d).1 - (if rootsN q (i + d) = rootsN q i then 0 else (floorT s i d).2) ≤ costP s q (i + d)
  | 0, _ => by simp [floorT]
  | d + 1, h => by
    have ih := floor_low hv hq i d (by omega)
    have hb := floorT_bd hv i d
    have hm := rootsN_mono q (i := i) d
    have hr := hq.root
    have hm2 := rootsN_mono q (i := i + d + 1) (s.copies.length - (i + d + 1))
    rw [show i + d + 1 + (s.copies.length - (i + d + 1)) = s.copies.length by omega, hr] at hm2
    rw [← Nat.add_assoc, rootsN_step] at *
    simp only [floorT]
    by_cases hk : q (i + d) < 0
    · rw [if_pos hk] at hm2 ⊢
      rw [costP_root hk, if_neg (show ¬ rootsN q (i + d) + 1 = rootsN q i by omega)]
      rw [if_pos (show rootsN q (i + d) = rootsN q i by omega)] at ih
      omega
    · have h0 : 0 ≤ q (i + d) := by omega
      have hmay := hq.part.may (i + d) (by omega) h0
      have hlt := hq.part.lt (i + d) (by omega)
      have hls := leastTo_spec (s := s) (c := i + d) (k := s.copies.length) (i := (q (i + d)).toNat) (by omega) hmay
      have hcc := cellM_cost hmay
      have hcb := costI_bd hv (i := (q (i + d)).toNat) (k := i + d) (by omega)
      rw [if_neg hk, Nat.add_zero] at hm2 ⊢
      rw [costP_kid h0]
      split
      · rename_i e
        rw [if_pos e] at ih
        omega
      · rename_i e
        rw [if_neg e] at ih
        omega
theorem floor_cut {s : Stem} (hv : s.Valid) {q : Nat → Int} (hq : TreeS s q) {i : Nat} (h : i ≤ s.copies.length) : costP s q i + floorI s i ≤ costP s q s.copies.length := by
  have h1 := floor_low hv hq i (s.copies.length - i) (by omega)
  have hb := floorT_bd hv i (s.copies.length - i)
  rw [show i + (s.copies.length - i) = s.copies.length by omega] at h1
  unfold floorI
  split at h1 <;> omega
theorem floor_end (s : Stem) : floorI s s.copies.length = 0 := by
  unfold floorI
  rw [Nat.sub_self]; rfl
theorem upF_through {q : Nat → Int} {i N : Nat} (hN : i < N) : ∀ {m f : Nat}, upF q i m f = some i → ∃ t, ∀ M, upF q N (t + M) f = upF q N M i
  | 0, _, h => by cases h
  | m + 1, f, h => by
    rw [upF_eq] at h
    split at h
    · rename_i hc
      obtain ⟨t, ht⟩ := upF_through hN h
      refine ⟨t + 1, fun M => ?_⟩
      rw [show t + 1 + M = (t + M) + 1 by omega, upF_eq, if_pos ⟨by omega, hc.2⟩]
      exact ht M
    · cases h
      exact ⟨0, fun M => by rw [Nat.zero_add]⟩
theorem upF_never {q : Nat → Int} {N i t : Nat} (h : ∀ M, upF q N (t + 1 + M) i = upF q N M i) : ∀ (b M : Nat), M ≤ b → ∀ r, upF q N M i ≠ some r
  | 0, M, hM, r, hr => by
    have : M = 0 := by omega
    subst this; cases hr
  | b + 1, M, hM, r, hr => by
    by_cases hlt : M < t + 1
    · have h1 := upF_le hr (Nat.le_of_lt hlt)
      have h2 := h 0
      rw [Nat.add_zero] at h2
      rw [h2] at h1; cases h1
    · have h2 := h (M - (t + 1))
      rw [show t + 1 + (M - (t + 1)) = M by omega, hr] at h2
      exact upF_never h b (M - (t + 1)) (by omega) r h2.symm
theorem tree_open {q : Nat → Int} {N i : Nat} (ha : Acyc q N) (hi : i < N) (h0 : 0 ≤ q i) : closesB q i (q i).toNat = false := by
  unfold closesB
  cases h : upF q i (fuelOf i) (q i).toNat with
  | none => rfl
  | some r =>
    show (Int.ofNat r == Int.ofNat i) = false
    by_cases e : r = i
    · subst e
      obtain ⟨t, ht⟩ := upF_through hi h
      obtain ⟨x, hx⟩ := ha r
      refine absurd hx (upF_never (t := t) (fun M => ?_) _ _ (Nat.le_refl _) x)
      rw [show t + 1 + M = (t + M) + 1 by omega, upF_eq, if_pos ⟨hi, h0⟩]
      exact ht M
    · rw [beq_eq_false_iff_ne]; exact fun h => e (Int.ofNat_inj.1 h)
/-- What has been found is least trees. -/
structure GoodS (s : Stem) (σ : SS) : Prop where
  f : σ.found = false → σ.least = []
  ne : σ.found = true → σ.least ≠ []
  all : ∀ p, p ∈ σ.least → TreeS s p ∧ costP s p s.copies.length = σ.cost
/-- A tree that has been looked at. -/
def Cov (s : Stem) (σ : SS) (q : Nat → Int) : Prop := σ.found = true ∧ σ.cost ≤ costP s q s.copies.length ∧ (costP s q s.copies.length = σ.cost → ∃ p, p ∈ σ.least ∧ ∀ j, j < s.copies.length → p j = q j)
def LeS (s : Stem) (σ σ' : SS) : Prop := ∀ q, Cov s σ q → Cov s σ' q
theorem LeS.refl (s : Stem) (σ : SS) : LeS s σ σ := fun _ h => h
theorem LeS.trans {s : Stem} {a b c : SS} (h : LeS s a b) (k : LeS s b c) : LeS s a c := fun q hq => k q (h q hq)
/-- What a step does. -/
structure DoesS (s : Stem) (i : Nat) (σ σ' : SS) (W : (Nat → Int) → Prop) : Prop where
  good : GoodS s σ'
  le : LeS s σ σ'
  cov : ∀ q, TreeS s q → (∀ j, j < i → σ.par j = q j) → W q → Cov s σ' q
theorem leaf_does {s : Stem} {σ : SS} {c : Int} {rt : Bool} (hg : GoodS s σ) (hp : Part s σ.par s.copies.length) (hc : c = costP s σ.par s.copies.length) (hr : (rootsN σ.par s.copies.length == 1) = rt) (hle : σ.found = true → c ≤ σ.cost) :
    DoesS s s.copies.length σ (leafS c rt σ) (fun _ => True) := by
  unfold leafS
  cases rt with
  | false =>
    refine ⟨hg, LeS.refl _ _, fun q hq he _ => ?_⟩
    have h1 : rootsN σ.par s.copies.length ≠ 1 := by simpa using hr
    exact absurd ((rootsN_ext he).trans hq.root) h1
  | true =>
    have h1 : rootsN σ.par s.copies.length = 1 := by simpa using hr
    have ht : TreeS s σ.par := ⟨hp, h1⟩
    cases hn : (!σ.found || decide (c < σ.cost)) with
    | true =>
      simp only [cond_true]
      refine ⟨⟨(fun h => Bool.noConfusion h), fun _ => by simp, fun p hp => ?_⟩, fun q hq => ?_, fun q hq he _ => ⟨rfl, ?_, fun _ => ⟨σ.par, by simp, he⟩⟩⟩
      · have : p = σ.par := by simpa using hp
        subst this; exact ⟨ht, hc.symm⟩
      · obtain ⟨h2, h3, h4⟩ := hq
        rw [h2] at hn
        have h5 : c < σ.cost := by simpa using hn
        exact ⟨rfl, by show c ≤ _; omega, fun e => by have e : costP s q s.copies.length = c := e; omega⟩
      · show c ≤ _
        rw [hc, costP_ext he]; exact Int.le_refl _
    | false =>
      simp only [cond_true, cond_false]
      rw [Bool.or_eq_false_iff] at hn
      have h2 : σ.found = true := by simpa using hn.1
      have h3 := of_decide_eq_false hn.2
      have h4 := hle h2
      have h5 : c = σ.cost := by omega
      refine ⟨⟨fun h => absurd (h2.symm.trans h) (by decide), fun _ => by simp, fun p hp => ?_⟩, fun q hq => ⟨hq.1, hq.2.1, fun e => ?_⟩, fun q hq he _ => ⟨h2, ?_, fun _ => ⟨σ.par, by simp, he⟩⟩⟩
      · have hp : p ∈ σ.least ++ [σ.par] := hp
        rcases List.mem_append.1 hp with hp | hp
        · exact hg.all p hp
        · have : p = σ.par := by simpa using hp
          subst this; exact ⟨ht, by rw [← hc, h5]⟩
      · obtain ⟨p, h6, h7⟩ := hq.2.2 e
        exact ⟨p, List.mem_append_left _ h6, h7⟩
      · show σ.cost ≤ _
        rw [← h5, hc, costP_ext he]; exact Int.le_refl _
theorem cov_set {s : Stem} {σ : SS} {i : Nat} {x : Int} {q : Nat → Int} : Cov s (σ.set i x) q ↔ Cov s σ q := Iff.rfl
theorem GoodS.set {s : Stem} {σ : SS} (h : GoodS s σ) (i : Nat) (x : Int) : GoodS s (σ.set i x) := ⟨h.f, h.ne, h.all⟩
theorem Part.keep {s : Stem} {p p' : Nat → Int} {i : Nat} (h : Part s p i) (e : ∀ q, q < i → p' q = p q) : Part s p' i :=
  ⟨fun k hk => by rw [e k hk]; exact h.ge k hk, fun k hk => by rw [e k hk]; exact h.lt k hk, fun k hk h0 => by rw [e k hk] at h0 ⊢; exact h.may k hk h0, acyc_ext (fun j hj => (e j hj).symm) h.ac, by rw [rootsN_ext e]; exact h.one⟩
theorem setP_lt {p : Nat → Int} {i : Nat} {x : Int} : ∀ j, j < i → setP p i x j = p j := fun j hj => setP_ne (by omega)
theorem Part.root {s : Stem} {p : Nat → Int} {i : Nat} (h : Part s p i) (hn : i < s.copies.length) (h0 : rootsN p i = 0) : Part s (setP p i (-1)) (i + 1) := by
  refine ⟨fun k hk => ?_, fun k hk => ?_, fun k hk hp => ?_, acyc_set h.ac (-1) (.inl (by decide)), ?_⟩
  · by_cases e : k = i
    · subst e; rw [setP_eq]; omega
    · rw [setP_ne e]; exact h.ge k (by omega)
  · by_cases e : k = i
    · subst e; rw [setP_eq]; omega
    · rw [setP_ne e]; exact h.lt k (by omega)
  · by_cases e : k = i
    · subst e; rw [setP_eq] at hp; omega
    · rw [setP_ne e] at hp ⊢; exact h.may k (by omega) hp
  · rw [rootsN_step, rootsN_ext setP_lt, h0, setP_eq]; decide
theorem Part.kid {s : Stem} {p : Nat → Int} {i m : Nat} (h : Part s p i) (hm : m < s.copies.length) (hc : cellM s m i ≠ -1) (ho : closesB p i m = false) : Part s (setP p i (Int.ofNat m)) (i + 1) := by
  refine ⟨fun k hk => ?_, fun k hk => ?_, fun k hk hp => ?_, acyc_set h.ac (Int.ofNat m) (.inr ho), ?_⟩
  · by_cases e : k = i
    · subst e; rw [setP_eq]; simp only [Int.ofNat_eq_natCast]; omega
    · rw [setP_ne e]; exact h.ge k (by omega)
  · by_cases e : k = i
    · subst e; rw [setP_eq]; simp only [Int.ofNat_eq_natCast]; omega
    · rw [setP_ne e]; exact h.lt k (by omega)
  · by_cases e : k = i
    · subst e; rw [setP_eq]; exact hc
    · rw [setP_ne e] at hp ⊢; exact h.may k (by omega) hp
  · rw [rootsN_step, rootsN_ext setP_lt, setP_eq, if_neg (by simp only [Int.ofNat_eq_natCast]; omega)]; exact h.one
theorem loop_does {s : Stem} {i : Nat} {c : Int} {rt : Bool} {next : Int → SS → SS} (hi : i < s.copies.length) {σ : SS} (hg : GoodS s σ) (hp : Part s σ.par i) (hc : c = costP s σ.par i) (hr : (rootsN σ.par i == 1) = rt)
    (hk : ∀ c' σ', Keeps (i + 1) σ' (next c' σ'))
    (hn : ∀ c' σ', GoodS s σ' → Part s σ'.par (i + 1) → c' = costP s σ'.par (i + 1) → (rootsN σ'.par (i + 1) == 1) = rt → DoesS s (i + 1) σ' (next c' σ') (fun _ => True)) :
    ∀ m, m ≤ s.copies.length → DoesS s i σ (loopS s i c next m σ) (fun q => 0 ≤ q i ∧ q i < m)
  | 0, _ => ⟨hg, LeS.refl _ _, fun q _ _ h => by have := h.1; have := h.2; omega⟩
  | m + 1, hm => by
    have ih := loop_does hi hg hp hc hr hk hn m (by omega)
    have hkeep := loopS_keeps (s := s) (i := i) (c := c) hk m σ
    have hpm : Part s (loopS s i c next m σ).par i := hp.keep hkeep.par
    unfold loopS
    cases hb : ((!(cellM s m i == -1)) && !closesB (loopS s i c next m σ).par i m) with
    | true =>
      rw [Bool.and_eq_true] at hb
      have h1 : cellM s m i ≠ -1 := by simpa using hb.1
      have h2 : closesB (loopS s i c next m σ).par i m = false := by simpa using hb.2
      have hmn : m < s.copies.length := by omega
      have hpar : ((loopS s i c next m σ).set i (Int.ofNat m)).par = setP (loopS s i c next m σ).par i (Int.ofNat m) := rfl
      have hco : c + cellM s m i = costP s ((loopS s i c next m σ).set i (Int.ofNat m)).par (i + 1) := by
        rw [hpar, costP_kid (by rw [setP_eq]; simp only [Int.ofNat_eq_natCast]; omega), setP_eq, costP_ext setP_lt, costP_ext hkeep.par, ← hc, cellM_cost h1]; rfl
      have hro : (rootsN ((loopS s i c next m σ).set i (Int.ofNat m)).par (i + 1) == 1) = rt := by
        rw [hpar, rootsN_step, setP_eq, if_neg (by simp only [Int.ofNat_eq_natCast]; omega), rootsN_ext setP_lt, rootsN_ext hkeep.par]; exact hr
      have hd := hn (c + cellM s m i) ((loopS s i c next m σ).set i (Int.ofNat m)) (ih.good.set _ _) (hpm.kid hmn h1 h2) hco hro
      simp only [cond_true]
      refine ⟨hd.good, ih.le.trans hd.le, fun q hq he hw => ?_⟩
      by_cases e : q i = Int.ofNat m
      · refine hd.cov q hq (fun j hj => ?_) trivial
        rw [hpar]
        by_cases ej : j = i
        · subst ej; rw [setP_eq, e]
        · rw [setP_ne ej, hkeep.par j (by omega)]; exact he j (by omega)
      · refine hd.le q (ih.cov q hq he ⟨hw.1, ?_⟩)
        have h3 := hw.2
        simp only [Int.ofNat_eq_natCast] at e
        omega
    | false =>
      simp only [cond_false]
      refine ⟨ih.good, ih.le, fun q hq he hw => ?_⟩
      by_cases e : q i = Int.ofNat m
      · exfalso
        have h0 : (q i).toNat = m := by rw [e]; rfl
        have h1 := hq.part.may i hi hw.1
        have h2 := tree_open hq.part.ac hi hw.1
        rw [h0] at h1 h2
        rw [closesB_ext (p' := q) (fun j hj => (hkeep.par j hj).trans (he j hj)), h2] at hb
        have h3 : (!(cellM s m i == -1)) = true := by simpa using h1
        rw [h3] at hb; exact absurd hb (by decide)
      · refine ih.cov q hq he ⟨hw.1, ?_⟩
        have h3 := hw.2
        simp only [Int.ofNat_eq_natCast] at e
        omega
theorem cut_does {s : Stem} (hv : s.Valid) {i : Nat} {c : Int} {σ : SS} (hi : i ≤ s.copies.length) (hg : GoodS s σ) (hc : c = costP s σ.par i) (h : cutB s i c σ = true) : DoesS s i σ σ (fun _ => True) := by
  unfold cutB at h
  rw [Bool.and_eq_true] at h
  have h1 := of_decide_eq_true h.2
  refine ⟨hg, LeS.refl _ _, fun q hq he _ => ?_⟩
  have h2 := floor_cut hv hq hi
  rw [hc, costP_ext he] at h1
  exact ⟨h.1, by omega, fun e => by omega⟩
theorem step_does {s : Stem} (hv : s.Valid) : ∀ (k i : Nat) (c : Int) (rt : Bool) (σ : SS), i + k = s.copies.length → GoodS s σ → Part s σ.par i → c = costP s σ.par i → (rootsN σ.par i == 1) = rt → DoesS s i σ (stepS s k i c rt σ) (fun _ => True) := by
  intro k
  induction k with
  | zero =>
    intro i c rt σ hik hg hp hc hr
    have hi : i = s.copies.length := hik
    subst hi
    unfold stepS
    cases h : cutB s s.copies.length c σ with
    | true => exact cut_does hv (Nat.le_refl _) hg hc h
    | false =>
      refine leaf_does hg hp hc hr fun hf => ?_
      unfold cutB at h
      rw [hf, Bool.true_and, floor_end, Int.add_zero] at h
      have := of_decide_eq_false h
      omega
  | succ k ih =>
    intro i c rt σ hik hg hp hc hr
    have hi : i < s.copies.length := by omega
    unfold stepS
    cases h : cutB s i c σ with
    | true => exact cut_does hv (Nat.le_of_lt hi) hg hc h
    | false =>
      simp only [cond_false]
      have hk : ∀ c' σ', Keeps (i + 1) σ' (stepS s k (i + 1) c' rt σ') := fun c' σ' => stepS_keeps s k (i + 1) c' rt σ'
      have hn : ∀ c' σ', GoodS s σ' → Part s σ'.par (i + 1) → c' = costP s σ'.par (i + 1) → (rootsN σ'.par (i + 1) == 1) = rt → DoesS s (i + 1) σ' (stepS s k (i + 1) c' rt σ') (fun _ => True) := fun c' σ' h1 h2 h3 h4 => ih (i + 1) c' rt σ' (by omega) h1 h2 h3 h4
      cases hrt : rt with
      | true =>
        simp only [cond_true]
        have hl := loop_does hi hg hp hc hr hk hn s.copies.length (Nat.le_refl _)
        rw [hrt] at hl
        refine ⟨hl.good, hl.le, fun q hq he _ => hl.cov q hq he ⟨?_, hq.part.lt i hi⟩⟩
        have h1 : rootsN σ.par i = 1 := by rw [hrt] at hr; simpa using hr
        have h2 := hq.root
        have h3 := rootsN_mono q (i := i + 1) (s.copies.length - (i + 1))
        rw [show i + 1 + (s.copies.length - (i + 1)) = s.copies.length by omega, h2, rootsN_step, ← rootsN_ext he, h1] at h3
        split at h3 <;> omega
      | false =>
        simp only [cond_false]
        have h0 : rootsN σ.par i = 0 := by
          have h1 : rootsN σ.par i ≠ 1 := by rw [hrt] at hr; simpa using hr
          have := hp.one; omega
        have hs1 := ih (i + 1) c true (σ.set i (-1)) (by omega) (hg.set _ _) (hp.root hi h0) (by
          show c = costP s (setP σ.par i (-1)) (i + 1)
          rw [costP_root (by rw [setP_eq]; decide), costP_ext setP_lt, hc]) (by
          show (rootsN (setP σ.par i (-1)) (i + 1) == 1) = true
          rw [rootsN_step, rootsN_ext setP_lt, h0, setP_eq]; rfl)
        have hkeep : Keeps i σ (stepS s k (i + 1) c true (σ.set i (-1))) := Keeps.set (stepS_keeps s k (i + 1) c true _)
        have hl := loop_does (c := c) hi hs1.good (hp.keep hkeep.par) (by rw [costP_ext hkeep.par]; exact hc) (by rw [rootsN_ext hkeep.par]; exact hr) hk hn s.copies.length (Nat.le_refl _)
        rw [hrt] at hl
        refine ⟨hl.good, fun q hq => hl.le q (hs1.le q hq), fun q hq he _ => ?_⟩
        by_cases e : q i < 0
        · refine hl.le q (hs1.cov q hq (fun j hj => ?_) trivial)
          show setP σ.par i (-1) j = q j
          by_cases ej : j = i
          · subst ej
            rw [setP_eq]
            have := hq.part.ge j hi; omega
          · rw [setP_ne ej]; exact he j (by omega)
        · exact hl.cov q hq (fun j hj => (hkeep.par j hj).trans (he j hj)) ⟨by omega, hq.part.lt i hi⟩
theorem part_zero (s : Stem) (p : Nat → Int) : Part s p 0 := ⟨fun k hk => absurd hk (Nat.not_lt_zero k), fun k hk => absurd hk (Nat.not_lt_zero k), fun k hk => absurd hk (Nat.not_lt_zero k), acyc_zero _, Nat.zero_le _⟩
theorem search_does {s : Stem} (hv : s.Valid) : GoodS s (searchS s) ∧ ∀ q, TreeS s q → Cov s (searchS s) q := by
  have h := step_does hv s.copies.length 0 0 false startS (Nat.zero_add _) ⟨fun _ => rfl, (fun h => Bool.noConfusion h), (fun p hp => nomatch hp)⟩ (part_zero s _) rfl rfl
  exact ⟨h.good, fun q hq => h.cov q hq (fun j hj => absurd hj (Nat.not_lt_zero j)) trivial⟩
end Go.Proofs.Ytncpeobcgmkkbaa
/- Pedigrees by Ids are trees by indices. -/
set_option maxRecDepth 100000
namespace Go.Proofs.Ytncpeobcgmkkbaa
theorem place_id {s : Stem} {a : Int} (h : 0 ≤ place s a) : (place s a).toNat < s.copies.length ∧ idAt s (place s a).toNat = a := by
  unfold place at *
  rcases idxC_lt (l := s.copies) (p := fun c => c.id == a) with e | ⟨k, hk, e, hp⟩
  · rw [e] at h; exact absurd h (by decide)
  · rw [e]
    exact ⟨hk, by show (s.copies.getD k default).id = a; simpa using hp⟩
theorem Stem.Valid.ids {s : Stem} (hv : s.Valid) : Asc s.copies := fun _ h0 hk => hv.asc hk h0
theorem Stem.Valid.id_pos {s : Stem} (hv : s.Valid) {k : Nat} (hk : k < s.copies.length) : 1 ≤ idAt s k := (ckCopy_of (hv.copy hk)).1.1
theorem place_at {s : Stem} (hv : s.Valid) {k : Nat} (hk : k < s.copies.length) : place s (idAt s k) = Int.ofNat k := by
  unfold place
  refine idxC_hit hk (by show ((s.copies.getD k default).id == idAt s k) = true; exact beq_self_eq_true _) fun i hi => ?_
  have := hv.ids.lt hi hk
  show ((s.copies.getD i default).id == (s.copies.getD k default).id) = false
  exact beq_false_of_ne (by omega)
theorem place_zero {s : Stem} (hv : s.Valid) : place s 0 < 0 := by
  by_cases h : 0 ≤ place s 0
  · obtain ⟨h1, h2⟩ := place_id h
    have := hv.id_pos h1
    omega
  · omega
theorem idAt_inj {s : Stem} (hv : s.Valid) {i k : Nat} (hi : i < s.copies.length) (hk : k < s.copies.length) (h : idAt s i = idAt s k) : i = k := by
  have h1 := place_at hv hi
  rw [h, place_at hv hk] at h1
  exact (Int.ofNat_inj.1 h1).symm
theorem fuel_ge : ∀ n, n + 1 ≤ fuelOf n
  | 0 => Nat.le_refl _
  | n + 1 => by
    have := fuel_ge n
    show n + 1 + 1 ≤ fuelOf n + (fuelOf n + 1)
    omega
theorem walk_up {p : Nat → Int} {n : Nat} (hp : ∀ k, k < n → p k < n) : ∀ (m a : Nat), a < n → p (walkU p m a) < 0 → upF p n (m + 1) a = some (walkU p m a)
  | 0, a, ha, h => by
    rw [upF_eq, if_neg]
    · rfl
    · intro h2
      have : p a < 0 := h
      omega
  | m + 1, a, ha, h => by
    by_cases h0 : 0 ≤ p a
    · rw [walkU_step h0] at h ⊢
      rw [upF_eq, if_pos ⟨ha, h0⟩]
      exact walk_up hp m _ (by have := hp a ha; omega) h
    · rw [upF_eq, if_neg (fun h2 => h0 h2.2), walkU_stop h0]
theorem rooted_acyc {p : Nat → Int} {n : Nat} (hp : ∀ k, k < n → p k < n) (h : rootedB n p = true) : Acyc p n ∧ rootsN p n = 1 := by
  unfold rootedB at h
  rw [Bool.and_eq_true, List.all_eq_true] at h
  refine ⟨fun f => ?_, ?_⟩
  · by_cases hf : f < n
    · have h1 := of_decide_eq_true (h.1 f (List.mem_range.2 hf))
      exact ⟨_, upF_le (walk_up hp n f hf h1) (fuel_ge n)⟩
    · exact ⟨f, upF_le (m := 1) (by rw [upF_eq, if_neg (fun h2 => hf h2.1)]) (by have := fuel_ge n; omega)⟩
  · have h2 : Int.ofNat (rootsN p n) = 1 := by simpa using h.2
    exact Int.ofNat_inj.1 h2
theorem isPed_tree {s : Stem} {l : List Int} (hv : s.Valid) (h : isPed s l) : TreeS s (parF s l) := by
  have hlt : ∀ k, k < s.copies.length → parF s l k < s.copies.length := fun k _ => place_lt s _
  obtain ⟨h1, h2⟩ := rooted_acyc hlt h.2
  refine ⟨⟨fun k _ => place_ge s _, hlt, fun k hk h0 => ?_, h1, by omega⟩, h2⟩
  have hb := h.1.2 k hk
  obtain ⟨h3, h4⟩ := place_id h0
  have hl0 : l.getD k 0 ≠ 0 := fun e => by
    have := place_zero hv
    unfold parF at h0
    rw [e] at h0; omega
  unfold badP at hb
  rw [show (!(l.getD k 0 == 0)) = true by simpa using hl0, Bool.true_and, Bool.or_eq_false_iff, Bool.or_eq_false_iff] at hb
  obtain ⟨_, h5, h6⟩ := hb
  have h7 : ¬ parF s l k = Int.ofNat k := by simpa using h5
  unfold cellM
  rw [if_neg (show ¬ (parF s l k).toNat = k from fun e => h7 (by simp only [Int.ofNat_eq_natCast]; omega))]
  have h8 : idAt s (parF s l k).toNat = l.getD k 0 := h4
  rw [h8, h6, if_neg (by decide)]
  have := (costI_bd hv (i := (parF s l k).toNat) (k := k) h3).1
  omega
theorem countP_more {α : Type} {a b : α → Bool} : ∀ {l : List α}, (∀ x, x ∈ l → a x = true → b x = true) → (∃ x, x ∈ l ∧ b x = true ∧ a x = false) → l.countP a + 1 ≤ l.countP b
  | [], _, ⟨_, h, _⟩ => nomatch h
  | y :: l, hab, ⟨x, hx, h1, h2⟩ => by
    have hmono : l.countP a ≤ l.countP b := List.countP_mono_left fun z hz hz2 => hab z (List.mem_cons_of_mem _ hz) hz2
    rw [List.countP_cons, List.countP_cons]
    rcases List.mem_cons.1 hx with e | hx
    · subst e
      rw [h1, h2]
      simp only [if_true, Bool.false_eq_true, if_false]
      omega
    · have ih := countP_more (a := a) (b := b) (l := l) (fun z hz => hab z (List.mem_cons_of_mem _ hz)) ⟨x, hx, h1, h2⟩
      have : (if a y = true then 1 else 0) ≤ (if b y = true then 1 else 0) := by
        by_cases ha : a y = true
        · rw [if_pos ha, if_pos (hab y (by simp) ha)]; exact Nat.le_refl _
        · rw [if_neg ha]; exact Nat.zero_le _
      omega
/-- How many of n copies have an end in m steps. -/
def doneN (p : Nat → Int) (n m : Nat) : Nat := (List.range n).countP fun f => (upF p n m f).isSome
theorem done_step {p : Nat → Int} {n m f : Nat} (hf : f < n) (h1 : (upF p n (m + 1) f).isSome = true) (h2 : (upF p n m f).isSome = false) : doneN p n m + 1 ≤ doneN p n (m + 1) := by
  refine countP_more (fun x _ hx => ?_) ⟨f, List.mem_range.2 hf, h1, h2⟩
  obtain ⟨r, hr⟩ := Option.isSome_iff_exists.1 hx
  rw [upF_more hr]; rfl
theorem done_ge {p : Nat → Int} {n : Nat} (hp : ∀ k, k < n → p k < n) : ∀ {m f : Nat}, f < n → (upF p n (m + 1) f).isSome = true → (upF p n m f).isSome = false → m ≤ doneN p n m
  | 0, _, _, _, _ => Nat.zero_le _
  | m + 1, f, hf, h1, h2 => by
    rw [upF_eq] at h1 h2
    by_cases hc : f < n ∧ 0 ≤ p f
    · rw [if_pos hc] at h1 h2
      have hlt : (p f).toNat < n := by have := hp f hf; omega
      have ih := done_ge hp hlt h1 h2
      have := done_step hlt h1 h2
      omega
    · rw [if_neg hc] at h2; cases h2
theorem done_all {p : Nat → Int} {n : Nat} (hp : ∀ k, k < n → p k < n) : ∀ {m f : Nat}, f < n → (upF p n m f).isSome = true → (upF p n n f).isSome = true
  | 0, f, _, h => by cases h
  | m + 1, f, hf, h => by
    cases h2 : (upF p n m f).isSome with
    | true => exact done_all hp hf h2
    | false =>
      have h3 := done_ge hp hf h h2
      have h4 := done_step hf h h2
      have h5 : doneN p n (m + 1) ≤ n := by
        have := List.countP_le_length (p := fun f => (upF p n (m + 1) f).isSome) (l := List.range n)
        rwa [List.length_range] at this
      obtain ⟨r, hr⟩ := Option.isSome_iff_exists.1 h
      rw [upF_le hr (show m + 1 ≤ n by omega)]; rfl
theorem up_walk {p : Nat → Int} {n : Nat} (hp : ∀ k, k < n → p k < n) : ∀ {m f r : Nat}, f < n → upF p n m f = some r → ∀ d, walkU p (m + d) f = r ∧ p r < 0
  | 0, _, _, _, h, _ => by cases h
  | m + 1, f, r, hf, h, d => by
    rw [upF_eq] at h
    by_cases hc : f < n ∧ 0 ≤ p f
    · rw [if_pos hc] at h
      have := up_walk hp (by have := hp f hf; omega) h d
      rw [show m + 1 + d = (m + d) + 1 by omega, walkU_step hc.2]; exact this
    · rw [if_neg hc] at h
      cases h
      have h0 : ¬ 0 ≤ p f := fun h0 => hc ⟨hf, h0⟩
      exact ⟨walkU_stop h0 _, by omega⟩
theorem acyc_rooted {p : Nat → Int} {n : Nat} (hp : ∀ k, k < n → p k < n) (ha : Acyc p n) (h1 : rootsN p n = 1) : rootedB n p = true := by
  rw [rooted_yes]
  · rw [h1]; rfl
  · intro i hi
    obtain ⟨r, hr⟩ := ha i
    have h2 := done_all hp hi (by rw [hr]; rfl)
    obtain ⟨r2, hr2⟩ := Option.isSome_iff_exists.1 h2
    have := up_walk hp hi hr2 0
    rw [Nat.add_zero] at this
    rw [this.1]; exact this.2
theorem rootsN_zero {p : Nat → Int} : ∀ {n : Nat}, rootsN p n = 0 → ∀ k, k < n → 0 ≤ p k
  | 0, _, k, hk => absurd hk (Nat.not_lt_zero k)
  | n + 1, h, k, hk => by
    rw [rootsN_step] at h
    by_cases e : k = n
    · subst e
      by_cases h0 : p k < 0
      · rw [if_pos h0] at h; omega
      · omega
    · exact rootsN_zero (n := n) (by omega) k (by omega)
/-- A tree by indices, as a list of Ids, is a pedigree. -/
theorem tree_ped {s : Stem} {p : Nat → Int} {l : List Int} (hv : s.Valid) (ht : TreeS s p) (hl : l.length = s.copies.length) (he : ∀ k, k < s.copies.length → l.getD k 0 = idOf s (p k)) :
    isPed s l ∧ ∀ k, k < s.copies.length → parF s l k = p k := by
  have hpar : ∀ k, k < s.copies.length → parF s l k = p k := fun k hk => by
    unfold parF
    rw [he k hk]
    unfold idOf
    have h1 := ht.part.ge k hk
    have h2 := ht.part.lt k hk
    by_cases h0 : p k < 0
    · rw [decide_eq_true h0]
      show place s 0 = _
      have := place_zero hv
      have := place_ge s 0
      omega
    · rw [decide_eq_false h0]
      show place s (idAt s (p k).toNat) = _
      rw [place_at hv (by omega)]
      simp only [Int.ofNat_eq_natCast]; omega
  refine ⟨⟨⟨hl, fun k hk => ?_⟩, ?_⟩, hpar⟩
  · unfold badP
    rw [hpar k hk, he k hk]
    unfold idOf
    by_cases h0 : p k < 0
    · rw [decide_eq_true h0]; rfl
    · rw [decide_eq_false h0]
      simp only [cond_false]
      have hm := ht.part.may k hk (by omega)
      unfold cellM at hm
      split at hm
      · exact absurd rfl hm
      · rename_i h1
        split at hm
        · exact absurd rfl hm
        · rename_i h2
          have h3 : (p k == Int.ofNat k) = false := by
            rw [beq_eq_false_iff_ne]
            intro e
            rw [e] at h1; exact h1 rfl
          rw [h3, show isNever s (idAt s (p k).toNat) (idAt s k) = false by simpa using h2]
          simp
  · have hlt : ∀ k, k < s.copies.length → parF s l k < s.copies.length := fun k _ => place_lt s _
    refine acyc_rooted hlt (acyc_ext (fun j hj => (hpar j hj).symm) ht.part.ac) ?_
    rw [rootsN_ext hpar]; exact ht.root
/-- What pedigrees cost is what the trees cost. -/
theorem ped_cost {s : Stem} {p : Nat → Int} {l : List Int} (h : ∀ k, k < s.copies.length → parF s l k = p k) : costP s (parF s l) s.copies.length = costP s p s.copies.length := costP_ext h
end Go.Proofs.Ytncpeobcgmkkbaa
/- Walks: the words of a copy, put right. -/
set_option maxRecDepth 100000
namespace Go.Proofs.Ytncpeobcgmkkbaa
variable {r : Tr (List Value × TypeId)}
/-- One error put right. -/
def fixS (id : Int) (n : Nat) (g : Nat → Int) (x : Slip) : Nat → Int := bif x.copy == id && (decide (x.place < n) && (g x.place == x.dst)) then setP g x.place x.src else g
theorem fixS_hit {id : Int} {n : Nat} {g : Nat → Int} {x : Slip} (h1 : x.copy = id) (h2 : x.place < n) (h3 : g x.place = x.dst) : fixS id n g x = setP g x.place x.src := by
  unfold fixS
  rw [h1, beq_self_eq_true, decide_eq_true h2, h3, beq_self_eq_true]; rfl
theorem foldl_fix_app (id : Int) (n : Nat) (g : Nat → Int) (l m : List Slip) : (l ++ m).foldl (fixS id n) g = m.foldl (fixS id n) (l.foldl (fixS id n) g) := List.foldl_append
theorem fix_other {id : Int} {n : Nat} : ∀ {l : List Slip} {g : Nat → Int}, (∀ x ∈ l, x.copy ≠ id) → l.foldl (fixS id n) g = g
  | [], _, _ => rfl
  | x :: l, g, h => by
    have h1 : fixS id n g x = g := by
      unfold fixS
      rw [beq_false_of_ne (h x (by simp))]; rfl
    rw [List.foldl_cons, h1]
    exact fix_other fun y hy => h y (by simp [hy])
theorem fix_own {s : Stem} {i j : Nat} {n : Nat} : ∀ k, k ≤ n → ∀ q, (slipsF s i j k).foldl (fixS (idAt s j) n) (wd s j) q = if q < k then wd s i q else wd s j q
  | 0, _, q => by rw [if_neg (Nat.not_lt_zero q)]; rfl
  | k + 1, hk, q => by
    have ih := fix_own (s := s) (i := i) (j := j) (n := n) k (by omega)
    unfold slipsF
    cases hw : wd s i k == wd s j k with
    | true =>
      simp only [cond_true]
      rw [ih]
      have hw : wd s i k = wd s j k := by simpa using hw
      by_cases h1 : q < k
      · rw [if_pos h1, if_pos (by omega)]
      · rw [if_neg h1]
        by_cases h2 : q = k
        · subst h2; rw [if_pos (by omega), hw]
        · rw [if_neg (by omega)]
    | false =>
      simp only [cond_false]
      rw [foldl_fix_app]
      show fixS (idAt s j) n _ ⟨idAt s j, k, wd s i k, wd s j k⟩ q = _
      rw [fixS_hit (x := ⟨idAt s j, k, wd s i k, wd s j k⟩) rfl (show k < n by omega) (show _ = wd s j k by rw [ih, if_neg (Nat.lt_irrefl k)])]
      show setP _ k (wd s i k) q = _
      by_cases h2 : q = k
      · subst h2; rw [setP_eq, if_pos (by omega)]
      · rw [setP_ne h2, ih]
        by_cases h3 : q < k
        · rw [if_pos h3, if_pos (by omega)]
        · rw [if_neg h3, if_neg (by omega)]
theorem slips_copy {s : Stem} {i j : Nat} : ∀ k, ∀ x ∈ slipsF s i j k, x.copy = idAt s j
  | 0, x, h => by cases h
  | k + 1, x, h => by
    unfold slipsF at h
    cases hw : wd s i k == wd s j k with
    | true => rw [hw] at h; exact slips_copy k x h
    | false =>
      rw [hw] at h
      simp only [cond_false, List.mem_append, List.mem_singleton] at h
      rcases h with h | h
      · exact slips_copy k x h
      · subst h; rfl
/-- All errors put right: the words of the parent. -/
theorem fix_all {s : Stem} (hv : s.Valid) {p : Nat → Int} {j : Nat} (hj : j < s.copies.length) (h0 : 0 ≤ p j) {n : Nat} (hn : (s.copies.getD j default).words.length = n) : ∀ k, k ≤ s.copies.length → ∀ q, q < n →
    (allF s p k).foldl (fixS (idAt s j) n) (wd s j) q = if j < k then wd s (p j).toNat q else wd s j q
  | 0, _, q, _ => by rw [if_neg (Nat.not_lt_zero j)]; rfl
  | k + 1, hk, q, hq => by
    have ih := fix_all hv hj h0 hn k (by omega)
    unfold allF
    by_cases hd : p k < 0
    · rw [decide_eq_true hd]
      simp only [cond_true]
      rw [ih q hq]
      have : j ≠ k := fun e => by subst e; omega
      by_cases h1 : j < k
      · rw [if_pos h1, if_pos (by omega)]
      · rw [if_neg h1, if_neg (by omega)]
    · rw [decide_eq_false hd]
      simp only [cond_false]
      rw [foldl_fix_app]
      by_cases e : j = k
      · subst e
        have hz : (allF s p j).foldl (fixS (idAt s j) n) (wd s j) = wd s j := by
          refine fix_other fun x hx => ?_
          have key : ∀ m, m ≤ j → ∀ x ∈ allF s p m, x.copy ≠ idAt s j := by
            intro m
            induction m with
            | zero => intro _ x hx; cases hx
            | succ m ihm =>
              intro hm x hx
              unfold allF at hx
              cases hd2 : decide (p m < 0) with
              | true => rw [hd2] at hx; exact ihm (by omega) x hx
              | false =>
                rw [hd2] at hx
                simp only [cond_false, List.mem_append] at hx
                rcases hx with hx | hx
                · exact ihm (by omega) x hx
                · rw [slips_copy _ x hx]
                  intro e
                  have := idAt_inj hv (by omega) hj e
                  omega
          exact key j (Nat.le_refl _) x hx
        rw [hz, hn, fix_own n (Nat.le_refl _), if_pos hq, if_pos (by omega)]
      · rw [fix_other (l := slipsF s (p k).toNat k _) (fun x hx => by
          rw [slips_copy _ x hx]
          intro e2
          exact e (idAt_inj hv hj (by omega) e2.symm)), ih q hq]
        by_cases h1 : j < k
        · rw [if_pos h1, if_pos (by omega)]
        · rw [if_neg h1, if_neg (by omega)]
/-- The words, the first k errors put right. -/
def fixK (id : Int) (n : Nat) (w : Nat → Int) (l : List Slip) : Nat → Nat → Int
  | 0 => w
  | k + 1 => fixS id n (fixK id n w l k) (l.getD k default)
theorem fixK_take (id : Int) (n : Nat) (w : Nat → Int) (l : List Slip) : ∀ k, k ≤ l.length → fixK id n w l k = (l.take k).foldl (fixS id n) w
  | 0, _ => rfl
  | k + 1, h => by
    have h2 : l.take (k + 1) = l.take k ++ [l.getD k default] := by
      rw [List.take_add_one, List.getElem?_eq_getElem (by omega)]
      rw [List.getD_eq_getElem?_getD, List.getElem?_eq_getElem (by omega)]; rfl
    rw [fixK, fixK_take id n w l k (by omega), h2, List.foldl_append]; rfl
theorem righted_ok {s : Stem} {b b2 : Bool} {l : List Int} (hv : s.Valid) (hl : l.length = s.copies.length) : VP (sE r) 12 [.agg ((eStem s).map .p), .p (eInts b l), .p (eSlips b2 (allF s (parF s l) s.copies.length))] (bv true) := by
  have hn : s.copies.length ≤ 7 := hv.c
  have hal := allF_len hv (parF s l) s.copies.length (Nat.le_refl _)
  generalize hA : allF s (parF s l) s.copies.length = A at hal ⊢
  refine VP.of (fn := Try.f12) tb_ok rfl (by kernel_rfl) rfl rfl rfl ?_
  refine VSt.go tb_ok false [] 200 rfl (by repeat (first | exact AllP.n | refine AllP.c (by first | assumption | rfl | omega | exact Nat.le_refl _ | (intro _ _; rfl) | (unfold inR; (try simp only [Int.ofNat_eq_natCast]); omega)) ?_)) ?_
  refine VSt.viewC (Wk.vw (ps := [(0, 0)]) (F0 := [(1, .p (eInts b l)), (2, .p (eSlips b2 A)), (3, .ref 0 0), (15, .p (eCopies s.cn s.copies)), (16, nv s.copies.length), (17, nv 0)]) (L0 := [(0, .cells ((eStem s).map .p) 27)]) ⟨rfl, rfl, (by repeat (first | exact wf_nil | refine wf_back rfl rfl rfl ?_)), _, rfl, LImp.refl _⟩) ?_
  refine VSt.viewC (Vw.freezeC 0 (eStem s) rfl rfl) ?_
  refine VSt.rangeF tb_ok s.copies.length (by omega) (fun k => [(1, .p (eInts b l)), (2, .p (eSlips b2 A)), (3, .p (.fp (eStem s) 0)), (15, .p (eCopies s.cn s.copies))]) (fun _ => []) (fun _ => True) rfl rfl (fun _ => rfl) ?_ trivial (fun k hk _ => ?_) (fun _ => ?_)
  · (refine Vw.sub' (subK (by repeat (first | exact sk_nil | refine sk_cons rfl ?_))))
  · refine VSt.go tb_ok false [] 200 rfl (by repeat (first | exact AllP.n | refine AllP.c (by first | assumption | rfl | omega | exact Nat.le_refl _ | (intro _ _; rfl) | (unfold inR; (try simp only [Int.ofNat_eq_natCast]); omega)) ?_)) ?_
    refine VSt.cond rfl (fun h1 => ?_) (fun h1 => ?_)
    · refine VSt.go tb_ok false [] 200 rfl (by repeat (first | exact AllP.n | refine AllP.c (by first | assumption | rfl | omega | exact Nat.le_refl _ | (intro _ _; rfl) | (unfold inR; (try simp only [Int.ofNat_eq_natCast]); omega)) ?_)) ?_
      exact ⟨by (refine Vw.drop (by repeat (first | exact wf_nil | refine wf_back rfl rfl rfl ?_ | refine wf_cons rfl (by assumption) (ren_only _ (by assumption)) ?_))), trivial⟩
    have h1 : (l.getD k 0 == 0) = false := h1
    refine Exists.elim (⟨_, rfl⟩ : ∃ len, len = (s.copies.getD k default).words.length) fun len hL => ?_
    have hw := (ckCopy_of (hv.copy hk)).2.1
    refine VSt.go tb_ok false [] 200 rfl (by repeat (first | exact AllP.n | refine AllP.c (by first | assumption | rfl | omega | exact Nat.le_refl _ | (intro _ _; rfl) | (unfold inR; (try simp only [Int.ofNat_eq_natCast]); omega)) ?_)) ?_
    have hlen : ∀ x : Nat, x < (s.copies.getD k default).words.length → wd s k x = (s.copies.getD k default).words.getD x 0 := fun _ _ => rfl
    refine VSt.viewC (Vw.freezeC 0 (eCopy (s.copies.getD k default)) rfl rfl) ?_
    first | refine VSt.viewC (Vw.kp [1, 2, 3, 7, 8, 9, 15, 16, 17, 31, 32, 33] [(0, 2)] rfl) ?_ | refine VSt.viewO (Vw.kp [1, 2, 3, 7, 8, 9, 15, 16, 17, 31, 32, 33] [(0, 2)] rfl) ?_ | refine VSt.viewD (Vw.kp [1, 2, 3, 7, 8, 9, 15, 16, 17, 31, 32, 33] [(0, 2)] rfl) ?_
    refine VSt.rangeT tb_ok A.length (by omega) [1, 2, 3, 7, 8, 15, 16, 17, 31] (fun _ => [(9, .sl 0 1 0 len len 0)]) (fun j => [(0, .arr len 1 (fun q => [.int .i64 (fixK (idAt s k) len (wd s k) A j q)]) 3)]) (fun _ => True) rfl rfl rfl (fun _ => rfl) rfl rfl (u0_cons rfl (AImp.slE (by rw [Nat.zero_add, ← hL]) (by rw [Nat.zero_add, ← hL])) u0_nil) ⟨rfl, BImp.arr' (by rw [Nat.zero_add, ← hL]) (fun q _ => rfl), trivial⟩ trivial (fun j hj _ => ?_) (fun _ => ?_)
    · refine VSt.go tb_ok false [] 200 rfl (by repeat (first | exact AllP.n | refine AllP.c (by first | assumption | rfl | omega | exact Nat.le_refl _ | (intro _ _; rfl) | (unfold inR; (try simp only [Int.ofNat_eq_natCast]); omega)) ?_)) ?_
      have keep : fixK (idAt s k) len (wd s k) A (j + 1) = fixK (idAt s k) len (wd s k) A j → ∀ q, q < len → (fun q => [PV.int .i64 (fixK (idAt s k) len (wd s k) A j q)]) q = (fun q => [PV.int .i64 (fixK (idAt s k) len (wd s k) A (j + 1) q)]) q := fun e q _ => by
        dsimp only
        rw [e]
      first | refine VSt.splitO 42 rfl (fun h2 => ?_) (fun h2 => ?_) | refine VSt.splitD 42 rfl (fun h2 => ?_) (fun h2 => ?_)
      · have h2 : ((A.getD j default).copy == idAt s k) = true := h2
        refine VSt.go tb_ok false [] 200 rfl (by repeat (first | exact AllP.n | refine AllP.c (by first | assumption | rfl | omega | exact Nat.le_refl _ | (intro _ _; rfl) | (unfold inR; (try simp only [Int.ofNat_eq_natCast]); omega)) ?_)) ?_
        first | refine VSt.splitO 47 rfl (fun h3 => ?_) (fun h3 => ?_) | refine VSt.splitD 47 rfl (fun h3 => ?_) (fun h3 => ?_)
        · refine VSt.go tb_ok false [] 200 rfl (by repeat (first | exact AllP.n | refine AllP.c (by first | assumption | rfl | omega | exact Nat.le_refl _ | (intro _ _; rfl) | (unfold inR; (try simp only [Int.ofNat_eq_natCast]); omega)) ?_)) ?_
          first | refine VSt.splitO 54 rfl (fun h4 => ?_) (fun h4 => ?_) | refine VSt.splitD 54 rfl (fun h4 => ?_) (fun h4 => ?_)
          · have h4 : (A.getD j default).place < len := by have := of_decide_eq_true h4; simp only [Int.ofNat_eq_natCast] at this; omega
            refine VSt.go tb_ok false [] 200 rfl (by repeat (first | exact AllP.n | refine AllP.c (by first | assumption | rfl | omega | exact Nat.le_refl _ | (intro _ _; rfl) | (unfold inR; (try simp only [Int.ofNat_eq_natCast]); omega)) ?_)) ?_
            refine VSt.cond rfl (fun h5 => ?_) (fun h5 => ?_)
            · have h5 : (fixK (idAt s k) len (wd s k) A j (0 + (A.getD j default).place) == (A.getD j default).dst) = true := h5
              rw [Nat.zero_add] at h5
              refine VSt.go tb_ok false [] 200 rfl (by repeat (first | exact AllP.n | refine AllP.c (by first | assumption | rfl | omega | exact Nat.le_refl _ | (intro _ _; rfl) | (unfold inR; (try simp only [Int.ofNat_eq_natCast]); omega)) ?_)) ?_
              refine ⟨?_, trivial⟩
              refine Wk.vw (ps := [(0, 0)]) ⟨rfl, rfl, (by repeat (first | exact wf_nil | refine wf_back rfl rfl rfl ?_)), _, rfl, (⟨rfl, BImp.arr' rfl (fun q hq => ?_), trivial⟩)⟩
              rw [fixK]
              unfold fixS
              rw [h2, h5, decide_eq_true h4]
              exact set_cell _ _ _ q
            · have h5 : (fixK (idAt s k) len (wd s k) A j (0 + (A.getD j default).place) == (A.getD j default).dst) = false := h5
              rw [Nat.zero_add] at h5
              refine VSt.go tb_ok false [] 200 rfl (by repeat (first | exact AllP.n | refine AllP.c (by first | assumption | rfl | omega | exact Nat.le_refl _ | (intro _ _; rfl) | (unfold inR; (try simp only [Int.ofNat_eq_natCast]); omega)) ?_)) ?_
              refine ⟨?_, trivial⟩
              refine Wk.vw (ps := [(0, 0)]) ⟨rfl, rfl, (by repeat (first | exact wf_nil | refine wf_back rfl rfl rfl ?_)), _, rfl, (⟨rfl, BImp.arr' rfl (keep ?_), trivial⟩)⟩
              rw [fixK]
              unfold fixS
              rw [h5, Bool.and_false, Bool.and_false]; rfl
          · have h4 : ¬ (A.getD j default).place < len := by have := of_decide_eq_false h4; simp only [Int.ofNat_eq_natCast] at this; omega
            refine VSt.go tb_ok false [] 200 rfl (by repeat (first | exact AllP.n | refine AllP.c (by first | assumption | rfl | omega | exact Nat.le_refl _ | (intro _ _; rfl) | (unfold inR; (try simp only [Int.ofNat_eq_natCast]); omega)) ?_)) ?_
            refine ⟨?_, trivial⟩
            refine Wk.vw (ps := [(0, 0)]) ⟨rfl, rfl, (by repeat (first | exact wf_nil | refine wf_back rfl rfl rfl ?_)), _, rfl, (⟨rfl, BImp.arr' rfl (keep ?_), trivial⟩)⟩
            rw [fixK]
            unfold fixS
            rw [decide_eq_false h4, Bool.false_and, Bool.and_false]; rfl
        · exact absurd (of_decide_eq_false h3) (fun h => h (Int.natCast_nonneg _))
      · have h2 : ((A.getD j default).copy == idAt s k) = false := h2
        refine VSt.go tb_ok false [] 200 rfl (by repeat (first | exact AllP.n | refine AllP.c (by first | assumption | rfl | omega | exact Nat.le_refl _ | (intro _ _; rfl) | (unfold inR; (try simp only [Int.ofNat_eq_natCast]); omega)) ?_)) ?_
        refine ⟨?_, trivial⟩
        refine Wk.vw (ps := [(0, 0)]) ⟨rfl, rfl, (by repeat (first | exact wf_nil | refine wf_back rfl rfl rfl ?_)), _, rfl, (⟨rfl, BImp.arr' rfl (keep ?_), trivial⟩)⟩
        rw [fixK]
        unfold fixS
        rw [h2, Bool.false_and]; rfl
    · refine VSt.go tb_ok false [] 200 rfl (by repeat (first | exact AllP.n | refine AllP.c (by first | assumption | rfl | omega | exact Nat.le_refl _ | (intro _ _; rfl) | (unfold inR; (try simp only [Int.ofNat_eq_natCast]); omega)) ?_)) ?_
      refine VSt.viewC (Vw.freeze 0 rfl rfl ⟨Nat.le_of_eq (Nat.zero_add _), Nat.le_refl _, rfl⟩) ?_
      refine VSt.rangeT tb_ok s.copies.length (by omega) [1, 2, 3, 7, 9, 15, 16, 17, 72] (fun _ => []) (fun _ => []) (fun _ => True) rfl rfl rfl (fun _ => rfl) rfl rfl u0_nil trivial trivial (fun i hi _ => ?_) (fun _ => ?_)
      · refine VSt.go tb_ok false [] 200 rfl (by repeat (first | exact AllP.n | refine AllP.c (by first | assumption | rfl | omega | exact Nat.le_refl _ | (intro _ _; rfl) | (unfold inR; (try simp only [Int.ofNat_eq_natCast]); omega)) ?_)) ?_
        first | refine VSt.splitO 85 rfl (fun h2 => ?_) (fun h2 => ?_) | refine VSt.splitD 85 rfl (fun h2 => ?_) (fun h2 => ?_)
        · have h2 : (idAt s i == l.getD k 0) = true := h2
          have h2 : idAt s i = l.getD k 0 := by simpa using h2
          have hp : parF s l k = Int.ofNat i := by unfold parF; rw [← h2]; exact place_at hv hi
          have hwi : (s.copies.getD i default).words.length = len := by rw [hL, hv.words hi, hv.words hk]
          refine VSt.go tb_ok false [] 200 rfl (by repeat (first | exact AllP.n | refine AllP.c (by first | assumption | rfl | omega | exact Nat.le_refl _ | (intro _ _; rfl) | (unfold inR; (try simp only [Int.ofNat_eq_natCast]); omega)) ?_)) ?_
          first | refine VSt.pc rfl rfl rfl rfl rfl rfl rfl rfl ((VP.imp (same_ok (b1 := false) (b2 := (s.copies.getD i default).wn) (l := (s.copies.getD i default).words) (by omega)) ⟨?_, AImp.refl _, trivial⟩)) ?_ | refine VSt.pcD rfl rfl rfl rfl rfl rfl rfl rfl ((VP.imp (same_ok (b1 := false) (b2 := (s.copies.getD i default).wn) (l := (s.copies.getD i default).words) (by omega)) ⟨?_, AImp.refl _, trivial⟩)) ?_
          · show AImp (.p (.lst 3 false len _)) (.p (.lst 3 false (s.copies.getD i default).words.length _))
            rw [hwi]
            refine AImp.lst fun q hq => ?_
            have h3 := fix_all hv (p := parF s l) hk (by rw [hp]; exact Int.natCast_nonneg i) hL.symm s.copies.length (Nat.le_refl _) q hq
            rw [if_pos hk, hp, hA] at h3
            rw [Nat.zero_add, fixK_take _ _ _ _ _ (Nat.le_refl _), List.take_length]
            dsimp only
            rw [h3]; rfl
          refine VSt.go tb_ok false [] 200 rfl (by repeat (first | exact AllP.n | refine AllP.c (by first | assumption | rfl | omega | exact Nat.le_refl _ | (intro _ _; rfl) | (unfold inR; (try simp only [Int.ofNat_eq_natCast]); omega)) ?_)) ?_
          refine VSt.cond rfl (fun h4 => absurd h4 (by decide)) (fun _ => ?_)
          refine VSt.go tb_ok false [] 200 rfl (by repeat (first | exact AllP.n | refine AllP.c (by first | assumption | rfl | omega | exact Nat.le_refl _ | (intro _ _; rfl) | (unfold inR; (try simp only [Int.ofNat_eq_natCast]); omega)) ?_)) ?_
          exact ⟨by (refine Vw.drop (by repeat (first | exact wf_nil | refine wf_back rfl rfl rfl ?_ | refine wf_cons rfl (by assumption) (ren_only _ (by assumption)) ?_))), trivial⟩
        · refine VSt.go tb_ok false [] 200 rfl (by repeat (first | exact AllP.n | refine AllP.c (by first | assumption | rfl | omega | exact Nat.le_refl _ | (intro _ _; rfl) | (unfold inR; (try simp only [Int.ofNat_eq_natCast]); omega)) ?_)) ?_
          exact ⟨by (refine Vw.drop (by repeat (first | exact wf_nil | refine wf_back rfl rfl rfl ?_ | refine wf_cons rfl (by assumption) (ren_only _ (by assumption)) ?_))), trivial⟩
      · refine VSt.go tb_ok false [] 200 rfl (by repeat (first | exact AllP.n | refine AllP.c (by first | assumption | rfl | omega | exact Nat.le_refl _ | (intro _ _; rfl) | (unfold inR; (try simp only [Int.ofNat_eq_natCast]); omega)) ?_)) ?_
        exact ⟨by (refine Vw.drop (by repeat (first | exact wf_nil | refine wf_back rfl rfl rfl ?_ | refine wf_cons rfl (by assumption) (ren_only _ (by assumption)) ?_))), trivial⟩
  · refine VSt.go tb_ok false [] 200 rfl (by repeat (first | exact AllP.n | refine AllP.c (by first | assumption | rfl | omega | exact Nat.le_refl _ | (intro _ _; rfl) | (unfold inR; (try simp only [Int.ofNat_eq_natCast]); omega)) ?_)) ?_
    exact EndsP.mk rfl rfl rfl rfl
end Go.Proofs.Ytncpeobcgmkkbaa
/- Walks: the law of errors. -/
set_option maxRecDepth 100000
namespace Go.Proofs.Ytncpeobcgmkkbaa
variable {r : Tr (List Value × TypeId)}
theorem ckStem_or (s : Stem) : ckStem s = 0 ∨ ckStem s = 42 := by
  unfold ckStem
  split
  · exact .inr rfl
  · exact .inl rfl
theorem studE_or {s : Stem} (h : ckStem s = 0) : studE s = 0 ∨ studE s = 45 := by
  unfold studE
  rw [if_pos h]
  split
  · exact .inr rfl
  · exact .inl rfl
theorem priceI_bd {c : Costs} (hc : (0 ≤ c.lose ∧ c.lose ≤ 100) ∧ (0 ≤ c.gain ∧ c.gain ≤ 100) ∧ (0 ≤ c.like ∧ c.like ≤ 100) ∧ (0 ≤ c.turn ∧ c.turn ≤ 100)) (a b : Int) : 0 ≤ priceI c a b ∧ priceI c a b ≤ 100 := by
  unfold priceI
  cases b == 0 <;> cases a == 0 <;> cases (a - b == 1) || (b - a == 1) <;> simp only [cond_true, cond_false] <;> omega
theorem sumPr_bd {c : Costs} (hc : (0 ≤ c.lose ∧ c.lose ≤ 100) ∧ (0 ≤ c.gain ∧ c.gain ≤ 100) ∧ (0 ≤ c.like ∧ c.like ≤ 100) ∧ (0 ≤ c.turn ∧ c.turn ≤ 100)) : ∀ l : List Slip, 0 ≤ sumPr c l ∧ sumPr c l ≤ 100 * l.length
  | [] => by simp [sumPr]
  | x :: l => by
    have ih := sumPr_bd hc l
    have hp := priceI_bd hc x.src x.dst
    have : sumPr c (x :: l) = priceI c x.src x.dst + sumPr c l := by simp [sumPr]
    rw [this, List.length_cons]
    omega
def qflag (s : Stem) (b : Bool) (k : Nat) : Bool := if k = 0 then b else !studE s == 0
def qlist (s : Stem) (l : List Int) (k : Nat) : List Int := if k = 0 then l else pedR s
theorem stemSlips_law {s : Stem} {b : Bool} {l : List Int} (hs : s.Ok) (hf : s.Flags) (hl : l.length < 9223372036854775808) : VP (sE r) 3 [.agg ((eStem s).map .p), .p (eInts b l)] (bv true) := by
  refine VP.of (fn := Try.f3) tb_ok rfl (by kernel_rfl) rfl rfl rfl ?_
  refine VSt.go tb_ok false [] 200 rfl (by repeat (first | exact AllP.n | refine AllP.c (by first | assumption | rfl | omega | exact Nat.le_refl _ | (intro _ _; rfl) | (unfold inR; (try simp only [Int.ofNat_eq_natCast]); omega)) ?_)) ?_
  first | refine VSt.pc rfl rfl rfl rfl rfl rfl rfl rfl ((rCheck_ok s hs)) ?_ | refine VSt.pcD rfl rfl rfl rfl rfl rfl rfl rfl ((rCheck_ok s hs)) ?_
  refine VSt.go tb_ok false [] 200 rfl (by repeat (first | exact AllP.n | refine AllP.c (by first | assumption | rfl | omega | exact Nat.le_refl _ | (intro _ _; rfl) | (unfold inR; (try simp only [Int.ofNat_eq_natCast]); omega)) ?_)) ?_
  refine VSt.cond rfl (fun h1 => ?_) (fun h1 => ?_)
  · have h1 : (!(ckStem s == 0)) = true := h1
    have h0 : ckStem s = 42 := (ckStem_or s).resolve_left (by simpa using h1)
    refine VSt.go tb_ok false [] 200 rfl (by repeat (first | exact AllP.n | refine AllP.c (by first | assumption | rfl | omega | exact Nat.le_refl _ | (intro _ _; rfl) | (unfold inR; (try simp only [Int.ofNat_eq_natCast]); omega)) ?_)) ?_
    first | refine VSt.pc rfl rfl rfl rfl rfl rfl rfl rfl ((check_ok s hs)) ?_ | refine VSt.pcD rfl rfl rfl rfl rfl rfl rfl rfl ((check_ok s hs)) ?_
    refine VSt.go tb_ok false [] 200 rfl (by repeat (first | exact AllP.n | refine AllP.c (by first | assumption | rfl | omega | exact Nat.le_refl _ | (intro _ _; rfl) | (unfold inR; (try simp only [Int.ofNat_eq_natCast]); omega)) ?_)) ?_
    first | refine VSt.splitO 22 rfl (fun h2 => ?_) (fun h2 => ?_) | refine VSt.splitD 22 rfl (fun h2 => ?_) (fun h2 => ?_)
    · refine VSt.go tb_ok false [] 200 rfl (by repeat (first | exact AllP.n | refine AllP.c (by first | assumption | rfl | omega | exact Nat.le_refl _ | (intro _ _; rfl) | (unfold inR; (try simp only [Int.ofNat_eq_natCast]); omega)) ?_)) ?_
      first | refine VSt.pc rfl rfl rfl rfl rfl rfl rfl rfl ((VP.hook rfl)) ?_ | refine VSt.pcD rfl rfl rfl rfl rfl rfl rfl rfl ((VP.hook rfl)) ?_
      refine VSt.go tb_ok false [] 200 rfl (by repeat (first | exact AllP.n | refine AllP.c (by first | assumption | rfl | omega | exact Nat.le_refl _ | (intro _ _; rfl) | (unfold inR; (try simp only [Int.ofNat_eq_natCast]); omega)) ?_)) ?_
      exact EndsP.mk rfl rfl rfl rfl
    · have h2 : (ckStem s == 42) = false := h2
      rw [h0] at h2
      exact absurd h2 (by decide)
  have h0 : ckStem s = 0 := by
    have h1 : (!(ckStem s == 0)) = false := h1
    simpa using h1
  have hv := valid_of h0
  refine VSt.go tb_ok false [] 200 rfl (by repeat (first | exact AllP.n | refine AllP.c (by first | assumption | rfl | omega | exact Nat.le_refl _ | (intro _ _; rfl) | (unfold inR; (try simp only [Int.ofNat_eq_natCast]); omega)) ?_)) ?_
  first | refine VSt.pc rfl rfl rfl rfl rfl rfl rfl rfl ((Pedigree_ok hs)) ?_ | refine VSt.pcD rfl rfl rfl rfl rfl rfl rfl rfl ((Pedigree_ok hs)) ?_
  refine VSt.go tb_ok false [] 200 rfl (by repeat (first | exact AllP.n | refine AllP.c (by first | assumption | rfl | omega | exact Nat.le_refl _ | (intro _ _; rfl) | (unfold inR; (try simp only [Int.ofNat_eq_natCast]); omega)) ?_)) ?_
  refine VSt.viewC (Vw.freezeC 0 (eStem s) rfl rfl) ?_
  have hq : ∀ k, (qlist s l k).length < 9223372036854775808 := fun k => by
    unfold qlist
    split
    · exact hl
    · unfold pedR
      split
      · rw [pedL_len]; have := hv.c; omega
      · decide
  refine VSt.rangeT tb_ok 2 (by omega) [2, 6] (fun _ => [(32, .p (.lst 28 false 2 fun k => [eInts (qflag s b k) (qlist s l k)]))]) (fun _ => []) (fun _ => True) rfl rfl rfl (fun _ => rfl) rfl rfl
    (u0_cons rfl (AImp.lst fun k hk => by match k, hk with | 0, _ => rfl | 1, _ => rfl) u0_nil) trivial trivial (fun k hk _ => ?_) (fun _ => ?_)
  · have hsl := Slips_ok (r := r) (b := qflag s b k) hs (hq k)
    have hco := CostOf_ok (r := r) (b := qflag s b k) hs (hq k)
    by_cases h3 : pedE s (qlist s l k) = 0
    · have hp := (pedE_of h3).2
      have ht := isPed_tree hv hp
      rw [h3, show slipsV s (qlist s l k) = _ from if_pos h3] at hsl
      rw [h3, show costOfI s (qlist s l k) = _ from if_pos h3] at hco
      have hal := allF_len hv (parF s (qlist s l k)) s.copies.length (Nat.le_refl _)
      have hwd := allF_wd hv (p := parF s (qlist s l k)) ht.part.lt s.copies.length (Nat.le_refl _)
      have hsum := sumPr_all hv (p := parF s (qlist s l k)) ht.part.lt s.copies.length (Nat.le_refl _)
      have hri := righted_ok (r := r) (b := qflag s b k) (b2 := (allF s (parF s (qlist s l k)) s.copies.length).isEmpty) hv hp.1.1
      generalize allF s (parF s (qlist s l k)) s.copies.length = A at hsl hal hwd hsum hri
      refine VSt.go tb_ok false [] 200 rfl (by repeat (first | exact AllP.n | refine AllP.c (by first | assumption | rfl | omega | exact Nat.le_refl _ | (intro _ _; rfl) | (unfold inR; (try simp only [Int.ofNat_eq_natCast]); omega)) ?_)) ?_
      first | refine VSt.pc rfl rfl rfl rfl rfl rfl rfl rfl (hsl) ?_ | refine VSt.pcD rfl rfl rfl rfl rfl rfl rfl rfl (hsl) ?_
      refine VSt.go tb_ok false [] 200 rfl (by repeat (first | exact AllP.n | refine AllP.c (by first | assumption | rfl | omega | exact Nat.le_refl _ | (intro _ _; rfl) | (unfold inR; (try simp only [Int.ofNat_eq_natCast]); omega)) ?_)) ?_
      first | refine VSt.pc rfl rfl rfl rfl rfl rfl rfl rfl (hco) ?_ | refine VSt.pcD rfl rfl rfl rfl rfl rfl rfl rfl (hco) ?_
      refine VSt.go tb_ok false [] 200 rfl (by repeat (first | exact AllP.n | refine AllP.c (by first | assumption | rfl | omega | exact Nat.le_refl _ | (intro _ _; rfl) | (unfold inR; (try simp only [Int.ofNat_eq_natCast]); omega)) ?_)) ?_
      refine VSt.cond rfl (fun h2 => absurd h2 (by decide)) (fun _ => ?_)
      refine VSt.go tb_ok false [] 200 rfl (by repeat (first | exact AllP.n | refine AllP.c (by first | assumption | rfl | omega | exact Nat.le_refl _ | (intro _ _; rfl) | (unfold inR; (try simp only [Int.ofNat_eq_natCast]); omega)) ?_)) ?_
      refine VSt.cond rfl (fun h2 => absurd h2 (by decide)) (fun _ => ?_)
      refine VSt.go tb_ok false [] 200 rfl (by repeat (first | exact AllP.n | refine AllP.c (by first | assumption | rfl | omega | exact Nat.le_refl _ | (intro _ _; rfl) | (unfold inR; (try simp only [Int.ofNat_eq_natCast]); omega)) ?_)) ?_
      refine VSt.rangeT tb_ok A.length (by have := hv.c; omega) [2, 6, 8, 9, 11, 32, 33, 34, 55] (fun j => [(13, iv (sumPr s.costs (A.take j)))]) (fun _ => []) (fun _ => True) rfl rfl rfl (fun _ => rfl) rfl rfl (u0_cons rfl (AImp.refl _) u0_nil) trivial trivial (fun j hj _ => ?_) (fun _ => ?_)
      · have hm : A.getD j default ∈ A := by
          rw [List.getD_eq_getElem?_getD, List.getElem?_eq_getElem hj]
          exact List.getElem_mem hj
        have hx := hwd _ hm
        have hb := sumPr_bd hv.costs (A.take j)
        have hpb := priceI_bd hv.costs (A.getD j default).src (A.getD j default).dst
        rw [List.length_take] at hb
        have hn : s.copies.length ≤ 7 := hv.c
        have e : sumPr s.costs (A.take (j + 1)) = sumPr s.costs (A.take j) + priceI s.costs (A.getD j default).src (A.getD j default).dst := by
          rw [List.take_add_one, sumPr_app, List.getElem?_eq_getElem hj]
          simp [sumPr, hj]
        refine VSt.go tb_ok false [] 200 rfl (by repeat (first | exact AllP.n | refine AllP.c (by first | assumption | rfl | omega | exact Nat.le_refl _ | (intro _ _; rfl) | (unfold inR; (try simp only [Int.ofNat_eq_natCast]); omega)) ?_)) ?_
        first | refine VSt.pc rfl rfl rfl rfl rfl rfl rfl rfl ((price_ok s.costs (A.getD j default) hx.1 hx.2.1)) ?_ | refine VSt.pcD rfl rfl rfl rfl rfl rfl rfl rfl ((price_ok s.costs (A.getD j default) hx.1 hx.2.1)) ?_
        refine VSt.go tb_ok false [] 200 rfl (by repeat (first | exact AllP.n | refine AllP.c (by first | assumption | rfl | omega | exact Nat.le_refl _ | (intro _ _; rfl) | (unfold inR; (try simp only [Int.ofNat_eq_natCast]); omega)) ?_)) ?_
        refine ⟨?_, trivial⟩
        dsimp only
        rw [e]
        (refine Vw.drop (by repeat (first | exact wf_nil | refine wf_back rfl rfl rfl ?_ | refine wf_cons rfl (by assumption) (ren_only _ (by assumption)) ?_)))
      · rw [List.take_length, hsum]
        refine VSt.go tb_ok false [] 200 rfl (by repeat (first | exact AllP.n | refine AllP.c (by first | assumption | rfl | omega | exact Nat.le_refl _ | (intro _ _; rfl) | (unfold inR; (try simp only [Int.ofNat_eq_natCast]); omega)) ?_)) ?_
        first | refine VSt.splitO 71 rfl (fun h5 => ?_) (fun h5 => ?_) | refine VSt.splitD 71 rfl (fun h5 => ?_) (fun h5 => ?_)
        · have h5 : (!(costP s (parF s (qlist s l k)) s.copies.length == costP s (parF s (qlist s l k)) s.copies.length)) = true := h5
          rw [beq_self_eq_true] at h5; exact absurd h5 (by decide)
        refine VSt.go tb_ok false [] 200 rfl (by repeat (first | exact AllP.n | refine AllP.c (by first | assumption | rfl | omega | exact Nat.le_refl _ | (intro _ _; rfl) | (unfold inR; (try simp only [Int.ofNat_eq_natCast]); omega)) ?_)) ?_
        first | refine VSt.pc rfl rfl rfl rfl rfl rfl rfl rfl (hri) ?_ | refine VSt.pcD rfl rfl rfl rfl rfl rfl rfl rfl (hri) ?_
        refine VSt.go tb_ok false [] 200 rfl (by repeat (first | exact AllP.n | refine AllP.c (by first | assumption | rfl | omega | exact Nat.le_refl _ | (intro _ _; rfl) | (unfold inR; (try simp only [Int.ofNat_eq_natCast]); omega)) ?_)) ?_
        refine VSt.cond rfl (fun h6 => absurd h6 (by decide)) (fun _ => ?_)
        refine VSt.go tb_ok false [] 200 rfl (by repeat (first | exact AllP.n | refine AllP.c (by first | assumption | rfl | omega | exact Nat.le_refl _ | (intro _ _; rfl) | (unfold inR; (try simp only [Int.ofNat_eq_natCast]); omega)) ?_)) ?_
        exact ⟨by (refine Vw.drop (by repeat (first | exact wf_nil | refine wf_back rfl rfl rfl ?_ | refine wf_cons rfl (by assumption) (ren_only _ (by assumption)) ?_))), trivial⟩
    · have hsl' := hsl
      refine VSt.go tb_ok false [] 200 rfl (by repeat (first | exact AllP.n | refine AllP.c (by first | assumption | rfl | omega | exact Nat.le_refl _ | (intro _ _; rfl) | (unfold inR; (try simp only [Int.ofNat_eq_natCast]); omega)) ?_)) ?_
      first | refine VSt.pc rfl rfl rfl rfl rfl rfl rfl rfl (hsl) ?_ | refine VSt.pcD rfl rfl rfl rfl rfl rfl rfl rfl (hsl) ?_
      refine VSt.go tb_ok false [] 200 rfl (by repeat (first | exact AllP.n | refine AllP.c (by first | assumption | rfl | omega | exact Nat.le_refl _ | (intro _ _; rfl) | (unfold inR; (try simp only [Int.ofNat_eq_natCast]); omega)) ?_)) ?_
      first | refine VSt.pc rfl rfl rfl rfl rfl rfl rfl rfl (hco) ?_ | refine VSt.pcD rfl rfl rfl rfl rfl rfl rfl rfl (hco) ?_
      refine VSt.go tb_ok false [] 200 rfl (by repeat (first | exact AllP.n | refine AllP.c (by first | assumption | rfl | omega | exact Nat.le_refl _ | (intro _ _; rfl) | (unfold inR; (try simp only [Int.ofNat_eq_natCast]); omega)) ?_)) ?_
      refine VSt.cond rfl (fun h2 => absurd h2 (by show ¬ (!(pedE s (qlist s l k) == pedE s (qlist s l k))) = true; rw [beq_self_eq_true]; decide)) (fun _ => ?_)
      refine VSt.go tb_ok false [] 200 rfl (by repeat (first | exact AllP.n | refine AllP.c (by first | assumption | rfl | omega | exact Nat.le_refl _ | (intro _ _; rfl) | (unfold inR; (try simp only [Int.ofNat_eq_natCast]); omega)) ?_)) ?_
      refine VSt.cond rfl (fun h4 => ?_) (fun h4 => ?_)
      · refine VSt.go tb_ok false [] 200 rfl (by repeat (first | exact AllP.n | refine AllP.c (by first | assumption | rfl | omega | exact Nat.le_refl _ | (intro _ _; rfl) | (unfold inR; (try simp only [Int.ofNat_eq_natCast]); omega)) ?_)) ?_
        exact ⟨by (refine Vw.drop (by repeat (first | exact wf_nil | refine wf_back rfl rfl rfl ?_ | refine wf_cons rfl (by assumption) (ren_only _ (by assumption)) ?_))), trivial⟩
      · have h4 : (!(pedE s (qlist s l k) == 0)) = false := h4
        exact absurd (by simpa using h4) h3
  · refine VSt.go tb_ok false [] 200 rfl (by repeat (first | exact AllP.n | refine AllP.c (by first | assumption | rfl | omega | exact Nat.le_refl _ | (intro _ _; rfl) | (unfold inR; (try simp only [Int.ofNat_eq_natCast]); omega)) ?_)) ?_
    first | refine VSt.splitO 81 rfl (fun h6 => ?_) (fun h6 => ?_) | refine VSt.splitD 81 rfl (fun h6 => ?_) (fun h6 => ?_)
    · refine VSt.go tb_ok false [] 200 rfl (by repeat (first | exact AllP.n | refine AllP.c (by first | assumption | rfl | omega | exact Nat.le_refl _ | (intro _ _; rfl) | (unfold inR; (try simp only [Int.ofNat_eq_natCast]); omega)) ?_)) ?_
      first | refine VSt.pc rfl rfl rfl rfl rfl rfl rfl rfl ((VP.hook rfl)) ?_ | refine VSt.pcD rfl rfl rfl rfl rfl rfl rfl rfl ((VP.hook rfl)) ?_
      refine VSt.go tb_ok false [] 200 rfl (by repeat (first | exact AllP.n | refine AllP.c (by first | assumption | rfl | omega | exact Nat.le_refl _ | (intro _ _; rfl) | (unfold inR; (try simp only [Int.ofNat_eq_natCast]); omega)) ?_)) ?_
      exact EndsP.mk rfl rfl rfl rfl
    · have h6 : (studE s == 0) = false := h6
      have h7 : studE s = 45 := (studE_or h0).resolve_left (by simpa using h6)
      rw [h7]
      refine VSt.go tb_ok false [] 200 rfl (by repeat (first | exact AllP.n | refine AllP.c (by first | assumption | rfl | omega | exact Nat.le_refl _ | (intro _ _; rfl) | (unfold inR; (try simp only [Int.ofNat_eq_natCast]); omega)) ?_)) ?_
      first | refine VSt.splitO 85 rfl (fun h8 => ?_) (fun h8 => ?_) | refine VSt.splitD 85 rfl (fun h8 => ?_) (fun h8 => ?_)
      · refine VSt.go tb_ok false [] 200 rfl (by repeat (first | exact AllP.n | refine AllP.c (by first | assumption | rfl | omega | exact Nat.le_refl _ | (intro _ _; rfl) | (unfold inR; (try simp only [Int.ofNat_eq_natCast]); omega)) ?_)) ?_
        first | refine VSt.pc rfl rfl rfl rfl rfl rfl rfl rfl ((VP.hook rfl)) ?_ | refine VSt.pcD rfl rfl rfl rfl rfl rfl rfl rfl ((VP.hook rfl)) ?_
        refine VSt.go tb_ok false [] 200 rfl (by repeat (first | exact AllP.n | refine AllP.c (by first | assumption | rfl | omega | exact Nat.le_refl _ | (intro _ _; rfl) | (unfold inR; (try simp only [Int.ofNat_eq_natCast]); omega)) ?_)) ?_
        exact EndsP.mk rfl rfl rfl rfl
      · exact absurd h8 (by decide)
end Go.Proofs.Ytncpeobcgmkkbaa
