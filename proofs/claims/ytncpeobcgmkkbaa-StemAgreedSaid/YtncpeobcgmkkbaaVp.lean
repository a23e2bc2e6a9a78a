/- The program's StemAgreed returns true for every stem and every list of Ids, valid or not, without an exception and without changing its arguments: a part of the proof. -/
import Derived.Test.YtncpeobcgmkkbaaVo
import Derived.Test.YtncpeobcgmkkbaaVe
set_option linter.all false
/- Walks: the search; a stem that is studied. -/
set_option maxRecDepth 100000
namespace Go.Proofs.Ytncpeobcgmkkbaa
variable {r : Tr (List Value × TypeId)}
def startS : SS := ⟨false, 0, [], fun _ => 0⟩
/-- What the search finds. -/
def searchS (s : Stem) : SS := stepS s s.copies.length 0 0 false startS
theorem search_ok {s : Stem} (hs : s.Ok) (hv : s.Valid) : VC (sE r) [0] 64 [.ref 0 0] [(0, studyC s (.p (rowsP s)) (.p (.lst 0 true 0 fun _ => [])) 0)]
    (fun a L => a = .tup [] ∧ L = [(0, studyC s (.p (rowsP s)) (.acc true 1 1 (searchS s).least.length) (searchS s).cost), (1, .acc (searchS s).least.length 1 (fLst s (searchS s).least) 28)]) := by
  have hn : s.copies.length ≤ 7 := hv.c
  refine VC.of (fn := Try.f64) tb_ok rfl (by kernel_rfl) rfl rfl ?_
  refine VSt.run tb_ok false [] 200 rfl trivial ?_
  refine VSt.look (Vw.trans (Wk.vw (ps := [(0, 0)]) (F0 := [(6, .ref 0 0)]) (L0 := [(0, studyC s (.p (rowsP s)) (.p (.lst 0 true 0 fun _ => [])) 0)]) ⟨rfl, rfl, (by repeat (first | exact wf_nil | refine wf_back rfl rfl rfl ?_)), _, rfl, LImp.refl _⟩) (Vw.freezeC 0 (studyP s (.lst 0 true 0 fun _ => []) (.int .i64 0)) rfl rfl)) rfl rfl rfl rfl rfl rfl rfl (floors_ok hv) (fun a L' h => by rw [h.1, h.2]; exact ⟨rfl, trivial, trivial⟩) ?_
  rintro a L' ⟨rfl, rfl⟩
  refine VSt.run tb_ok false [] 200 rfl (⟨Nat.le_refl _, by show s.copies.length ≤ 1048576; omega⟩) ?_
  refine VSt.viewO (Wk.vw (ps := [(0, 0), (1, 1), (2, 3), (3, 2), (4, 4), (5, 5), (6, 6), (7, 7)]) (F0 := [(16, stepF)])
    (L0 := [(0, studyC s (.p (rowsP s)) (.p (.lst 0 true 0 fun _ => [])) 0), (1, .cells [.ref 0 0] 65), (2, .cells [.map 3] 105), (3, .mapI (flK s (s.copies.length + 1))), (4, .arr s.copies.length 1 (fun q => [.int .i64 ((fun _ => 0 : Nat → Int) q)]) 3), (5, .cells [.sl 4 1 0 s.copies.length s.copies.length 1] 28), (6, .cells [bv false] 4), (7, .cells [stepF] 107)])
    ⟨rfl, rfl, (by repeat (first | exact wf_nil | refine wf_back rfl rfl rfl ?_)), _, rfl, LImp.refl _⟩) ?_
  refine VSt.viewO (Vw.adopt 8 1 (fLst s []) 28 rfl) ?_
  refine VSt.viewO (Wk.vw (ps := [(0, 0), (1, 1), (2, 2), (3, 3), (4, 4), (5, 5), (6, 6), (7, 7), (8, 8)]) (F0 := [(16, stepF)]) (L0 := SM s startS) ⟨rfl, rfl, (by repeat (first | exact wf_nil | refine wf_back rfl rfl rfl ?_)), _, rfl,
    ⟨rfl, BImp.cells ⟨AImp.refl _, AImp.refl _, AImp.refl _, AImp.refl _, AImp.refl _, AImp.refl _, AImp.refl _, AImp.nilAcc, AImp.refl _, trivial⟩, rfl, BImp.refl _, rfl, BImp.refl _, rfl, BImp.refl _, rfl, BImp.refl _, rfl, BImp.refl _, rfl, BImp.refl _, rfl, BImp.refl _, rfl, BImp.refl _, trivial⟩⟩) ?_
  refine VSt.cg [(0, 0), (1, 1), (2, 2), (3, 3), (4, 4), (5, 5), (6, 6), (7, 7), (8, 8)] rfl rfl rfl rfl rfl rfl rfl rfl rfl rfl rfl rfl (step_ok hs hv s.copies.length 0 0 false startS (Nat.zero_add _) ⟨fun q hq => absurd hq (Nat.not_lt_zero q), acyc_zero _, fun h => Bool.noConfusion h⟩ ⟨Int.le_refl _, by decide⟩ (fun h => Bool.noConfusion h) (by show 0 + _ ≤ _; rw [Nat.zero_add]; exact many_all hn)) ?_
  rintro a L' ⟨rfl, rfl⟩
  refine VSt.run tb_ok false [] 200 rfl trivial ?_
  exact ⟨rfl, _, [(0, 0), (1, 8)], _, _, rfl, ⟨rfl, rfl, wf_imp rfl rfl (AImp.refl _) wf_nil, _, rfl, LImp.refl _⟩, rfl, rfl⟩
end Go.Proofs.Ytncpeobcgmkkbaa
/- Walks: a stem that is studied; the fewest, a pedigree. -/
set_option maxRecDepth 100000
namespace Go.Proofs.Ytncpeobcgmkkbaa
variable {r : Tr (List Value × TypeId)}
def leastP (s : Stem) : PV := .lst 28 false (searchS s).least.length (fLst s (searchS s).least)
/-- A study that has been searched, frozen. -/
def studyV (s : Stem) : AV := .p (.fp (studyP s (leastP s) (.int .i64 (searchS s).cost)) 0)
def agreedV (s : Stem) : AV := bif (searchS s).least.isEmpty then .tup [.p .nilp, iv 45] else .tup [studyV s, iv 0]
theorem agreed_ok {s : Stem} (hs : s.Ok) (hv : s.Valid) : VP (sE r) 42 [.agg ((eStem s).map .p)] (agreedV s) := by
  have ho : (agreedV s).only (fun _ => false) = true := by
    unfold agreedV
    cases (searchS s).least.isEmpty <;> rfl
  refine VP.of (fn := Try.f42) tb_ok rfl (by kernel_rfl) rfl rfl ho ?_
  refine VSt.run tb_ok false [] 200 rfl trivial ?_
  refine VSt.cc [] rfl rfl rfl rfl rfl rfl rfl rfl rfl rfl rfl (newStudy_ok hs hv) ?_
  rintro a L' ⟨rfl, rfl⟩
  refine VSt.run tb_ok false [] 200 rfl trivial ?_
  refine VSt.cc [(0, 1)] rfl rfl rfl rfl rfl rfl rfl rfl rfl rfl rfl (search_ok hs hv) ?_
  rintro a L' ⟨rfl, rfl⟩
  refine VSt.run tb_ok false [] 200 rfl trivial ?_
  refine VSt.cond rfl (fun h => ?_) (fun h => ?_)
  · have h : (searchS s).least = [] := by
      have h2 : (Int.ofNat (searchS s).least.length == 0) = true := h
      have h3 : Int.ofNat (searchS s).least.length = 0 := eq_of_beq h2
      exact List.length_eq_zero_iff.1 (Int.ofNat_inj.1 h3)
    refine VSt.run tb_ok false [] 200 rfl trivial ?_
    refine ⟨rfl, _, rfl, rfl, ?_⟩
    unfold agreedV
    rw [h]
    exact AImp.refl _
  · have h : (searchS s).least.length ≠ 0 := fun e => by
      have h2 : (Int.ofNat (searchS s).least.length == 0) = false := h
      rw [e] at h2; exact absurd h2 (by decide)
    have hb : Nat.beq (searchS s).least.length 0 = false := beq_ne h
    have he : (searchS s).least.isEmpty = false := by
      cases hl : (searchS s).least with
      | nil => rw [hl] at h; exact absurd rfl h
      | cons x l => rfl
    refine VSt.viewC (Wk.vw (ps := [(1, 1), (2, 3)]) (F0 := [(4, .ref 1 0)]) (L0 := [(1, studyC s (.p (rowsP s)) (.acc true 2 1 (searchS s).least.length) (searchS s).cost), (2, .acc (searchS s).least.length 1 (fLst s (searchS s).least) 28)]) ⟨rfl, rfl, (by repeat (first | exact wf_nil | refine wf_back rfl rfl rfl ?_)), _, rfl, LImp.refl _⟩) ?_
    refine VSt.viewC (Vw.freezeA 2 rfl rfl ⟨Nat.le_refl _, rfl⟩) ?_
    refine VSt.viewC (Vw.freezeC 1 (studyP s (.lst 28 (true && Nat.beq (searchS s).least.length 0) (searchS s).least.length (fLst s (searchS s).least)) (.int .i64 (searchS s).cost)) rfl rfl) ?_
    refine VSt.run tb_ok false [] 200 rfl trivial ?_
    refine ⟨rfl, _, rfl, rfl, ?_⟩
    unfold agreedV
    rw [he, hb]
    exact AImp.refl _
/-- A study, or an error. -/
def studiedV (s : Stem) : AV := bif ckStem s == 0 then agreedV s else .tup [.p .nilp, iv (ckStem s)]
/-- The error of a study. -/
def studE (s : Stem) : Int := if ckStem s = 0 then (if (searchS s).least = [] then 45 else 0) else ckStem s
theorem studied_ok {s : Stem} (hs : s.Ok) : VP (sE r) 34 [.agg ((eStem s).map .p)] (.tup [if studE s = 0 then studyV s else .p .nilp, iv (studE s)]) := by
  have ho : AV.only (fun _ => false) (.tup [if studE s = 0 then studyV s else .p .nilp, iv (studE s)]) = true := by
    by_cases h : studE s = 0
    · rw [if_pos h]; rfl
    · rw [if_neg h]; rfl
  refine VP.of (fn := Try.f34) tb_ok rfl (by kernel_rfl) rfl rfl ho ?_
  refine VSt.run tb_ok false [] 200 rfl trivial ?_
  first | refine VSt.pc rfl rfl rfl rfl rfl rfl rfl rfl ((check_ok s hs)) ?_ | refine VSt.pcD rfl rfl rfl rfl rfl rfl rfl rfl ((check_ok s hs)) ?_
  refine VSt.run tb_ok false [] 200 rfl trivial ?_
  refine VSt.cond rfl (fun h1 => ?_) (fun h1 => ?_)
  · have h0 : ¬ ckStem s = 0 := by simpa using h1
    refine VSt.run tb_ok false [] 200 rfl trivial ?_
    refine ⟨rfl, _, rfl, rfl, ?_⟩
    have e : studE s = ckStem s := if_neg h0
    rw [e, if_neg h0]
    exact AImp.refl _
  have h0 : ckStem s = 0 := by simpa using h1
  have hv := valid_of h0
  refine VSt.run tb_ok false [] 200 rfl trivial ?_
  have ha := agreed_ok (r := r) hs hv
  by_cases h2 : (searchS s).least = []
  · have e : studE s = 45 := by unfold studE; rw [if_pos h0, if_pos h2]
    have ea : agreedV s = .tup [.p .nilp, iv 45] := by unfold agreedV; rw [h2]; rfl
    rw [ea] at ha
    first | refine VSt.pc rfl rfl rfl rfl rfl rfl rfl rfl (ha) ?_ | refine VSt.pcD rfl rfl rfl rfl rfl rfl rfl rfl (ha) ?_
    refine VSt.run tb_ok false [] 200 rfl trivial ?_
    refine ⟨rfl, _, rfl, rfl, ?_⟩
    rw [e, if_neg (by decide)]
    exact AImp.refl _
  · have e : studE s = 0 := by unfold studE; rw [if_pos h0, if_neg h2]
    have he : (searchS s).least.isEmpty = false := by
      cases hl : (searchS s).least with
      | nil => exact absurd hl h2
      | cons x l => rfl
    have ea : agreedV s = .tup [studyV s, iv 0] := by unfold agreedV; rw [he]; rfl
    rw [ea] at ha
    first | refine VSt.pc rfl rfl rfl rfl rfl rfl rfl rfl (ha) ?_ | refine VSt.pcD rfl rfl rfl rfl rfl rfl rfl rfl (ha) ?_
    refine VSt.run tb_ok false [] 200 rfl trivial ?_
    refine ⟨rfl, _, rfl, rfl, ?_⟩
    rw [e, if_pos rfl]
    exact AImp.refl _
end Go.Proofs.Ytncpeobcgmkkbaa
/- Walks: is it a tree; the parents of a pedigree. -/
set_option maxRecDepth 100000
namespace Go.Proofs.Ytncpeobcgmkkbaa
variable {r : Tr (List Value × TypeId)}
/-- At most m steps up. -/
def walkU (p : Nat → Int) : Nat → Nat → Nat
  | 0, a => a
  | m + 1, a => if 0 ≤ p a then walkU p m (p a).toNat else a
theorem walkU_step {p : Nat → Int} {a : Nat} (h : 0 ≤ p a) (m : Nat) : walkU p (m + 1) a = walkU p m (p a).toNat := if_pos h
theorem walkU_stop {p : Nat → Int} {a : Nat} (h : ¬ 0 ≤ p a) : ∀ m, walkU p m a = a
  | 0 => rfl
  | m + 1 => if_neg h
/-- How many of the first k are roots. -/
def rootsN (p : Nat → Int) : Nat → Nat
  | 0 => 0
  | k + 1 => bif decide (p k < 0) then rootsN p k + 1 else rootsN p k
theorem rootsN_le (p : Nat → Int) : ∀ k, rootsN p k ≤ k
  | 0 => Nat.le_refl _
  | k + 1 => by
    have := rootsN_le p k
    unfold rootsN
    cases decide (p k < 0) <;> simp only [cond_true, cond_false] <;> omega
def rootedB (n : Nat) (p : Nat → Int) : Bool := ((List.range n).all fun i => decide (p (walkU p n i) < 0)) && (Int.ofNat (rootsN p n) == 1)
theorem rooted_no {n : Nat} {p : Nat → Int} {i : Nat} (hi : i < n) (h : 0 ≤ p (walkU p n i)) : rootedB n p = false := by
  unfold rootedB
  have : ((List.range n).all fun i => decide (p (walkU p n i) < 0)) = false := by
    rw [List.all_eq_false]
    exact ⟨i, List.mem_range.2 hi, by simpa using h⟩
  rw [this]; rfl
theorem rooted_yes {n : Nat} {p : Nat → Int} (h : ∀ i, i < n → p (walkU p n i) < 0) : rootedB n p = (Int.ofNat (rootsN p n) == 1) := by
  unfold rootedB
  have : ((List.range n).all fun i => decide (p (walkU p n i) < 0)) = true := by
    rw [List.all_eq_true]
    exact fun i hi => by simpa using h i (List.mem_range.1 hi)
  rw [this]; rfl
/-- A list of ints by a function. -/
def intsF (b : Bool) (n : Nat) (p : Nat → Int) : PV := .lst 3 b n fun k => [.int .i64 (p k)]
theorem isRooted_ok {b : Bool} {n : Nat} {p : Nat → Int} (hn : n ≤ 1000) (hp : ∀ k, k < n → p k < n) : VP (sE r) 74 [.p (intsF b n p)] (bv (rootedB n p)) := by
  refine VP.of (fn := Try.f74) tb_ok rfl (by kernel_rfl) rfl rfl rfl ?_
  refine VSt.run tb_ok false [] 200 rfl trivial ?_
  refine VSt.rangeF tb_ok n (by omega) (fun k => [(0, .p (intsF b n p)), (3, nv (rootsN p k))]) (fun _ => []) (fun k => ∀ i, i < k → p (walkU p n i) < 0) rfl rfl (fun _ => rfl) ?_ (fun i hi => absurd hi (Nat.not_lt_zero i)) (fun i hi hb => ?_) (fun hb => ?_)
  · (refine Vw.drop (by repeat (first | exact wf_nil | refine wf_back rfl rfl rfl ?_ | refine wf_cons rfl (by assumption) (ren_only _ (by assumption)) ?_)))
  · refine VSt.run tb_ok false [] 200 rfl trivial ?_
    refine VSt.loop (α := Nat × Nat) (fun x F L => x.1 ≤ n ∧ x.2 < n ∧ walkU p (n - x.1) x.2 = walkU p n i ∧ F = [(0, .p (intsF b n p)), (3, nv (rootsN p i)), (4, nv i), (5, nv x.2), (6, nv x.1), (8, nv n), (9, nv i)] ∧ L = []) (fun x => n - x.1) (0, i) (by (refine Vw.sub' (subK (by repeat (first | exact sk_nil | refine sk_cons rfl ?_))))) ⟨Nat.zero_le _, hi, rfl, rfl, rfl⟩ ?_
    rintro ⟨m, a⟩ F L ⟨hm, ha, hw, rfl, rfl⟩
    have hm : m ≤ n := hm
    have ha : a < n := ha
    have hw : walkU p (n - m) a = walkU p n i := hw
    have hpa := hp a ha
    refine VSt.run tb_ok false [] 200 rfl (⟨ha, rfl⟩) ?_
    first | refine VSt.splitO 18 rfl (fun h1 => ?_) (fun h1 => ?_) | refine VSt.splitD 18 rfl (fun h1 => ?_) (fun h1 => ?_)
    all_goals
      first
        | (
            have h1 : decide (0 ≤ p a) = true := h1
            have h1 := of_decide_eq_true h1
            refine VSt.run tb_ok false [] 200 rfl trivial ?_
            refine VSt.cond rfl (fun h2 => ?_) (fun h2 => ?_)
            · have h2 : m < n := by have := of_decide_eq_true h2; simp only [Int.ofNat_eq_natCast] at this; omega
              refine VSt.run tb_ok false [] 200 rfl (⟨ha, rfl, (by show inR _; unfold inR; simp only [Int.ofNat_eq_natCast]; omega)⟩) ?_
              have e2 : p a = Int.ofNat (p a).toNat := by simp only [Int.ofNat_eq_natCast]; omega
              exact ⟨(m + 1, (p a).toNat), _, _, Wk.vw (ps := []) (F0 := [(0, .p (intsF b n p)), (3, nv (rootsN p i)), (4, nv i), (5, nv (p a).toNat), (6, nv (m + 1)), (8, nv n), (9, nv i)]) (L0 := []) ⟨rfl, rfl, wf_back rfl rfl rfl (wf_back rfl rfl rfl (wf_back rfl rfl rfl (wf_imp rfl rfl (iv_nv e2) (wf_back rfl rfl rfl (wf_back rfl rfl rfl (wf_back rfl rfl rfl wf_nil)))))), _, rfl, LImp.refl _⟩,
                ⟨h2, (by show (p a).toNat < n; omega), (by show walkU p (n - (m + 1)) _ = _; rw [← hw, ← walkU_step h1, show n - (m + 1) + 1 = n - m by omega]), rfl, rfl⟩, by show n - (m + 1) < n - m; omega⟩
            · have h2 : m = n := by have := of_decide_eq_false h2; simp only [Int.ofNat_eq_natCast] at this; omega
              have hw2 : walkU p n i = a := by rw [← hw, h2, Nat.sub_self]; rfl
              refine VSt.run tb_ok false [] 200 rfl (⟨ha, rfl⟩) ?_
              refine VSt.cond rfl (fun h3 => ?_) (fun h3 => ?_)
              · refine VSt.run tb_ok false [] 200 rfl trivial ?_
                refine EndsP.mk rfl rfl rfl ?_
                show bv _ = bv _
                rw [rooted_no hi (by rw [hw2]; exact h1)]
              · have h3 : decide (0 ≤ p a) = false := h3
                exact absurd h1 (of_decide_eq_false h3)
          )
        | (
            have h1 : decide (0 ≤ p a) = false := h1
            have h1 := of_decide_eq_false h1
            have hw2 : walkU p n i = a := by rw [← hw, walkU_stop h1]
            refine VSt.run tb_ok false [] 200 rfl (⟨ha, rfl⟩) ?_
            refine VSt.cond rfl (fun h3 => ?_) (fun h3 => ?_)
            · have h3 : decide (0 ≤ p a) = true := h3
              exact absurd (of_decide_eq_true h3) h1
            refine VSt.run tb_ok false [] 200 rfl (⟨hi, rfl⟩) ?_
            have hb2 : ∀ j, j < i + 1 → p (walkU p n j) < 0 := fun j hj => by
              by_cases e : j = i
              · subst e; rw [hw2]; omega
              · exact hb j (by omega)
            have hr := rootsN_le p i
            refine VSt.cond rfl (fun h4 => ?_) (fun h4 => ?_)
            · have h4 : decide (p i < 0) = true := h4
              refine VSt.run tb_ok false [] 200 rfl ((by show inR _; unfold inR; simp only [Int.ofNat_eq_natCast]; omega)) ?_
              have e : rootsN p (i + 1) = rootsN p i + 1 := by rw [rootsN, h4]; rfl
              refine ⟨?_, hb2⟩
              dsimp only
              rw [e]
              (refine Vw.sub' (subK (by repeat (first | exact sk_nil | refine sk_cons rfl ?_))))
            · have h4 : decide (p i < 0) = false := h4
              refine VSt.run tb_ok false [] 200 rfl trivial ?_
              have e : rootsN p (i + 1) = rootsN p i := by rw [rootsN, h4]; rfl
              refine ⟨?_, hb2⟩
              dsimp only
              rw [e]
              (refine Vw.sub' (subK (by repeat (first | exact sk_nil | refine sk_cons rfl ?_))))
          )
  · refine VSt.run tb_ok false [] 200 rfl trivial ?_
    refine EndsP.mk rfl rfl rfl ?_
    show bv _ = bv _
    rw [rooted_yes hb]
end Go.Proofs.Ytncpeobcgmkkbaa
/- Walks: the parents of a pedigree; what it costs. -/
set_option maxRecDepth 100000
namespace Go.Proofs.Ytncpeobcgmkkbaa
variable {r : Tr (List Value × TypeId)}
/-- The parents that a list of Ids names, by indices. -/
def parF (s : Stem) (l : List Int) : Nat → Int := fun k => place s (l.getD k 0)
def badP (s : Stem) (l : List Int) (k : Nat) : Bool := (!(l.getD k 0 == 0)) && (decide (parF s l k < 0) || (parF s l k == Int.ofNat k || isNever s (l.getD k 0) (idAt s k)))
def goodP (s : Stem) (l : List Int) : Prop := l.length = s.copies.length ∧ ∀ k, k < s.copies.length → badP s l k = false
theorem place_lt (s : Stem) (id : Int) : place s id < s.copies.length := by
  unfold place idxC
  cases h : s.copies.findIdx? (fun c => c.id == id) with
  | none => show (-1 : Int) < _; omega
  | some k =>
    rw [List.findIdx?_eq_some_iff_getElem] at h
    have := h.1
    show (k : Int) < _; omega
theorem place_ge (s : Stem) (id : Int) : -1 ≤ place s id := by
  unfold place idxC
  cases h : s.copies.findIdx? (fun c => c.id == id) with
  | none => exact Int.le_refl _
  | some k => show (-1 : Int) ≤ k; omega
/-- Are the Ids those of a pedigree? -/
def isPed (s : Stem) (l : List Int) : Prop := goodP s l ∧ rootedB s.copies.length (parF s l) = true
def parsP (s : Stem) (l : List Int) : PV := intsF (Nat.beq s.copies.length 0) s.copies.length (parF s l)
open Classical in
noncomputable def parsV (s : Stem) (l : List Int) : AV := if goodP s l then .tup [.p (parsP s l), bv (rootedB s.copies.length (parF s l))] else .tup [.p (.lst 0 true 0 fun _ => []), bv false]
open Classical in
theorem parentsOf_ok {s : Stem} {b : Bool} {l : List Int} (hs : s.Ok) (hv : s.Valid) (hl : l.length < 9223372036854775808) : VP (sE r) 57 [.agg ((eStem s).map .p), .p (eInts b l)] (parsV s l) := by
  have hn : s.copies.length ≤ 7 := hv.c
  have ho : (parsV s l).only (fun _ => false) = true := by
    unfold parsV
    split <;> rfl
  have no : ¬ goodP s l → parsV s l = .tup [.p (.lst 0 true 0 fun _ => []), bv false] := fun h => if_neg h
  refine VP.of (fn := Try.f57) tb_ok rfl (by kernel_rfl) rfl rfl ho ?_
  refine VSt.run tb_ok false [] 200 rfl trivial ?_
  refine VSt.cond rfl (fun h => ?_) (fun h => ?_)
  · have h : ¬ l.length = s.copies.length := fun e => by
      have h2 : (!(Int.ofNat l.length == Int.ofNat s.copies.length)) = true := h
      rw [e, beq_self_eq_true] at h2; exact absurd h2 (by decide)
    refine VSt.run tb_ok false [] 200 rfl trivial ?_
    refine ⟨rfl, _, rfl, rfl, ?_⟩
    rw [no (fun g => h g.1)]
    exact AImp.tup ⟨AImp.nil, AImp.refl _, trivial⟩
  have hlen : l.length = s.copies.length := by
    have h2 : (!(Int.ofNat l.length == Int.ofNat s.copies.length)) = false := h
    have h3 : Int.ofNat l.length = Int.ofNat s.copies.length := by simpa using h2
    exact Int.ofNat_inj.1 h3
  refine VSt.run tb_ok false [] 200 rfl trivial ?_
  refine VSt.viewC (Wk.vw (ps := [(0, 0)]) (F0 := [(2, .ref 0 0), (6, .p (.lst 0 true 0 fun _ => [])), (16, .p (eInts b l)), (17, nv l.length), (18, nv 0)]) (L0 := [(0, .cells ((eStem s).map .p) 27)])
    ⟨rfl, rfl, wf_back rfl rfl rfl (wf_imp rfl rfl AImp.nil (by repeat (first | exact wf_nil | refine wf_back rfl rfl rfl ?_))), _, rfl, LImp.refl _⟩) ?_
  refine VSt.viewC (Vw.freezeC 0 (eStem s) rfl rfl) ?_
  refine VSt.viewC (Vw.adopt 0 1 (fun k => [.int .i64 (parF s l k)]) 3 rfl) ?_
  refine VSt.rangeF tb_ok l.length (by omega) (fun k => [(2, .p (.fp (eStem s) 0)), (6, .acc true 0 1 k), (16, .p (eInts b l))]) (fun k => [(0, .acc k 1 (fun k => [.int .i64 (parF s l k)]) 3)]) (fun k => ∀ i, i < k → badP s l i = false) rfl rfl (fun _ => rfl) ?_ (fun i hi => absurd hi (Nat.not_lt_zero i)) (fun k hk hp => ?_) (fun hp => ?_)
  · exact Wk.vw (ps := [(0, 0)]) ⟨rfl, rfl, wf_back rfl rfl rfl (wf_back rfl rfl rfl (wf_back rfl rfl rfl (wf_imp rfl rfl AImp.nilAcc (by repeat (first | exact wf_nil | refine wf_back rfl rfl rfl ?_))))), _, rfl, LImp.refl _⟩
  · have hks : k < s.copies.length := by omega
    have app : ∀ q, q < k + 1 → (bif Nat.blt q k then (fun k => [PV.int .i64 (parF s l k)]) q else ([PV.int .i64 (place s (l.getD k 0))].drop ((q - k) * 1)).take 1) = (fun k => [PV.int .i64 (parF s l k)]) q := fun q hq => app_one (f := fun k => [PV.int .i64 (parF s l k)]) rfl hq
    have badg : badP s l k = true → ¬ goodP s l := fun h g => by rw [g.2 k hks] at h; cases h
    have hpb : badP s l k = false → ∀ i, i < k + 1 → badP s l i = false := fun h i hi => by
      by_cases e : i = k
      · subst e; exact h
      · exact hp i (by omega)
    refine VSt.run tb_ok false [] 200 rfl (⟨hk, rfl⟩) ?_
    first | refine VSt.pc rfl rfl rfl rfl rfl rfl rfl rfl ((index_ok s (l.getD k 0) hs.c)) ?_ | refine VSt.pcD rfl rfl rfl rfl rfl rfl rfl rfl ((index_ok s (l.getD k 0) hs.c)) ?_
    refine VSt.run tb_ok false [] 200 rfl trivial ?_
    first | refine VSt.splitO 28 rfl (fun h1 => ?_) (fun h1 => ?_) | refine VSt.splitD 28 rfl (fun h1 => ?_) (fun h1 => ?_)
    · have h1 : (!(l.getD k 0 == 0)) = true := h1
      refine VSt.run tb_ok false [] 200 rfl trivial ?_
      first | refine VSt.splitO 31 rfl (fun h2 => ?_) (fun h2 => ?_) | refine VSt.splitD 31 rfl (fun h2 => ?_) (fun h2 => ?_)
      · have h2 : decide (parF s l k < 0) = true := h2
        have hb : badP s l k = true := by unfold badP; rw [h1, h2]; rfl
        refine VSt.run tb_ok false [] 200 rfl trivial ?_
        refine ⟨rfl, _, rfl, rfl, ?_⟩
        rw [no (badg hb)]
        exact AImp.tup ⟨AImp.nil, AImp.refl _, trivial⟩
      · have h2 : decide (parF s l k < 0) = false := h2
        refine VSt.run tb_ok false [] 200 rfl trivial ?_
        first | refine VSt.splitO 36 rfl (fun h3 => ?_) (fun h3 => ?_) | refine VSt.splitD 36 rfl (fun h3 => ?_) (fun h3 => ?_)
        · have h3 : (parF s l k == Int.ofNat k) = true := h3
          have hb : badP s l k = true := by unfold badP; rw [h1, h2, h3]; rfl
          refine VSt.run tb_ok false [] 200 rfl trivial ?_
          refine ⟨rfl, _, rfl, rfl, ?_⟩
          rw [no (badg hb)]
          exact AImp.tup ⟨AImp.nil, AImp.refl _, trivial⟩
        · have h3 : (parF s l k == Int.ofNat k) = false := h3
          refine VSt.run tb_ok false [] 200 rfl (⟨hks, rfl⟩) ?_
          first | refine VSt.pc rfl rfl rfl rfl rfl rfl rfl rfl ((contN_ok s (l.getD k 0) (idAt s k) hs.n)) ?_ | refine VSt.pcD rfl rfl rfl rfl rfl rfl rfl rfl ((contN_ok s (l.getD k 0) (idAt s k) hs.n)) ?_
          refine VSt.run tb_ok false [] 200 rfl trivial ?_
          refine VSt.cond rfl (fun h4 => ?_) (fun h4 => ?_)
          · have h4 : isNever s (l.getD k 0) (idAt s k) = true := h4
            have hb : badP s l k = true := by unfold badP; rw [h1, h2, h3, h4]; rfl
            refine VSt.run tb_ok false [] 200 rfl trivial ?_
            refine ⟨rfl, _, rfl, rfl, ?_⟩
            rw [no (badg hb)]
            exact AImp.tup ⟨AImp.nil, AImp.refl _, trivial⟩
          · have h4 : isNever s (l.getD k 0) (idAt s k) = false := h4
            have hb : badP s l k = false := by unfold badP; rw [h1, h2, h3, h4]; rfl
            refine VSt.run tb_ok false [] 200 rfl (⟨by decide, by omega, (fun q hq => by match q, hq with | 0, _ => rfl), rfl, rfl, rfl⟩) ?_
            exact ⟨Wk.vw (ps := [(0, 1)]) ⟨rfl, rfl, (by repeat (first | exact wf_nil | refine wf_back rfl rfl rfl ?_)), _, rfl, ⟨rfl, BImp.acc rfl app, trivial⟩⟩, hpb hb⟩
    · have h1 : (!(l.getD k 0 == 0)) = false := h1
      have hb : badP s l k = false := by unfold badP; rw [h1]; rfl
      refine VSt.run tb_ok false [] 200 rfl (⟨by decide, by omega, (fun q hq => by match q, hq with | 0, _ => rfl), rfl, rfl, rfl⟩) ?_
      exact ⟨Wk.vw (ps := [(0, 1)]) ⟨rfl, rfl, (by repeat (first | exact wf_nil | refine wf_back rfl rfl rfl ?_)), _, rfl, ⟨rfl, BImp.acc rfl app, trivial⟩⟩, hpb hb⟩
  · have good : goodP s l := ⟨hlen, fun k hk => hp k (by omega)⟩
    refine VSt.viewC (Wk.vw (ps := [(0, 0)]) (F0 := [(6, .acc true 0 1 l.length)]) (L0 := [(0, .acc l.length 1 (fun k => [.int .i64 (parF s l k)]) 3)]) ⟨rfl, rfl, (by repeat (first | exact wf_nil | refine wf_back rfl rfl rfl ?_)), _, rfl, LImp.refl _⟩) ?_
    refine VSt.viewC (Vw.freezeA 0 rfl rfl ⟨Nat.le_refl _, rfl⟩) ?_
    refine VSt.run tb_ok false [] 200 rfl trivial ?_
    first | refine VSt.pc rfl rfl rfl rfl rfl rfl rfl rfl ((isRooted_ok (b := true && Nat.beq l.length 0) (n := l.length) (p := parF s l) (by omega) (fun k _ => by have := place_lt s (l.getD k 0); unfold parF; omega))) ?_ | refine VSt.pcD rfl rfl rfl rfl rfl rfl rfl rfl ((isRooted_ok (b := true && Nat.beq l.length 0) (n := l.length) (p := parF s l) (by omega) (fun k _ => by have := place_lt s (l.getD k 0); unfold parF; omega))) ?_
    refine VSt.run tb_ok false [] 200 rfl trivial ?_
    refine ⟨rfl, _, rfl, rfl, ?_⟩
    rw [show parsV s l = _ from if_pos good]
    show AImp (.tup [.p (intsF (true && Nat.beq l.length 0) l.length (parF s l)), bv (rootedB l.length (parF s l))]) _
    rw [hlen]
    exact AImp.refl _
end Go.Proofs.Ytncpeobcgmkkbaa
/- Walks: a pedigree, what it costs, the first least one. -/
set_option maxRecDepth 100000
namespace Go.Proofs.Ytncpeobcgmkkbaa
variable {r : Tr (List Value × TypeId)}
open Classical in
/-- The error of a pedigree. -/
noncomputable def pedE (s : Stem) (l : List Int) : Int := if ckStem s = 0 then (if isPed s l then 0 else 43) else ckStem s
theorem pedE_of {s : Stem} {l : List Int} (h : pedE s l = 0) : ckStem s = 0 ∧ isPed s l := by
  unfold pedE at h
  split at h
  · rename_i h0
    split at h
    · rename_i h1; exact ⟨h0, h1⟩
    · exact absurd h (by decide)
  · rename_i h0; exact absurd h h0
open Classical in
theorem pedigree_ok {s : Stem} {b : Bool} {l : List Int} (hs : s.Ok) (hl : l.length < 9223372036854775808) : VP (sE r) 36 [.agg ((eStem s).map .p), .p (eInts b l)] (.tup [if pedE s l = 0 then .p (parsP s l) else .p (.lst 0 true 0 fun _ => []), iv (pedE s l)]) := by
  have ho : AV.only (fun _ => false) (.tup [if pedE s l = 0 then .p (parsP s l) else .p (.lst 0 true 0 fun _ => []), iv (pedE s l)]) = true := by
    by_cases h : pedE s l = 0
    · rw [if_pos h]; rfl
    · rw [if_neg h]; rfl
  refine VP.of (fn := Try.f36) tb_ok rfl (by kernel_rfl) rfl rfl ho ?_
  refine VSt.run tb_ok false [] 200 rfl trivial ?_
  first | refine VSt.pc rfl rfl rfl rfl rfl rfl rfl rfl ((check_ok s hs)) ?_ | refine VSt.pcD rfl rfl rfl rfl rfl rfl rfl rfl ((check_ok s hs)) ?_
  refine VSt.run tb_ok false [] 200 rfl trivial ?_
  refine VSt.cond rfl (fun h1 => ?_) (fun h1 => ?_)
  · have h0 : ¬ ckStem s = 0 := by simpa using h1
    refine VSt.run tb_ok false [] 200 rfl trivial ?_
    refine ⟨rfl, _, rfl, rfl, ?_⟩
    have e : pedE s l = ckStem s := if_neg h0
    rw [e, if_neg h0]
    exact AImp.tup ⟨AImp.nil, AImp.refl _, trivial⟩
  have h0 : ckStem s = 0 := by simpa using h1
  have hv := valid_of h0
  have hp := parentsOf_ok (r := r) (b := b) hs hv hl
  refine VSt.run tb_ok false [] 200 rfl trivial ?_
  by_cases hg : goodP s l
  · rw [show parsV s l = _ from if_pos hg] at hp
    first | refine VSt.pc rfl rfl rfl rfl rfl rfl rfl rfl (hp) ?_ | refine VSt.pcD rfl rfl rfl rfl rfl rfl rfl rfl (hp) ?_
    refine VSt.run tb_ok false [] 200 rfl trivial ?_
    refine VSt.cond rfl (fun h2 => ?_) (fun h2 => ?_)
    · have h2 : (!rootedB s.copies.length (parF s l)) = true := h2
      have e : pedE s l = 43 := by unfold pedE; rw [if_pos h0, if_neg (fun q => by rw [q.2] at h2; cases h2)]
      refine VSt.run tb_ok false [] 200 rfl trivial ?_
      refine ⟨rfl, _, rfl, rfl, ?_⟩
      rw [e, if_neg (by decide)]
      exact AImp.tup ⟨AImp.nil, AImp.refl _, trivial⟩
    · have h2 : (!rootedB s.copies.length (parF s l)) = false := h2
      have e : pedE s l = 0 := by unfold pedE; rw [if_pos h0, if_pos ⟨hg, by simpa using h2⟩]
      refine VSt.run tb_ok false [] 200 rfl trivial ?_
      refine ⟨rfl, _, rfl, rfl, ?_⟩
      rw [e, if_pos rfl]
      exact AImp.refl _
  · rw [show parsV s l = _ from if_neg hg] at hp
    first | refine VSt.pc rfl rfl rfl rfl rfl rfl rfl rfl (hp) ?_ | refine VSt.pcD rfl rfl rfl rfl rfl rfl rfl rfl (hp) ?_
    refine VSt.run tb_ok false [] 200 rfl trivial ?_
    refine VSt.cond rfl (fun h2 => ?_) (fun h2 => absurd h2 (by decide))
    have e : pedE s l = 43 := by unfold pedE; rw [if_pos h0, if_neg (fun q => hg q.1)]
    refine VSt.run tb_ok false [] 200 rfl trivial ?_
    refine ⟨rfl, _, rfl, rfl, ?_⟩
    rw [e, if_neg (by decide)]
    exact AImp.tup ⟨AImp.nil, AImp.refl _, trivial⟩
/-- What the first k copies cost. -/
def costP (s : Stem) (p : Nat → Int) : Nat → Int
  | 0 => 0
  | k + 1 => bif decide (0 ≤ p k) then costP s p k + costI s (p k).toNat k else costP s p k
theorem costP_bd {s : Stem} (hv : s.Valid) {p : Nat → Int} (hp : ∀ k, k < s.copies.length → p k < s.copies.length) : ∀ k, k ≤ s.copies.length → 0 ≤ costP s p k ∧ costP s p k ≤ 1600 * k
  | 0, _ => by simp [costP]
  | k + 1, h => by
    have ih := costP_bd hv hp k (by omega)
    unfold costP
    cases hd : decide (0 ≤ p k) with
    | true =>
      have h0 := of_decide_eq_true hd
      have := hp k (by omega)
      have := costI_bd hv (i := (p k).toNat) (k := k) (by omega)
      simp only [cond_true]; omega
    | false => simp only [cond_false]; omega
open Classical in
noncomputable def costOfI (s : Stem) (l : List Int) : Int := if pedE s l = 0 then costP s (parF s l) s.copies.length else 0
open Classical in
theorem CostOf_ok {s : Stem} {b : Bool} {l : List Int} (hs : s.Ok) (hl : l.length < 9223372036854775808) : VP (sE r) 10 [.agg ((eStem s).map .p), .p (eInts b l)] (.tup [iv (costOfI s l), iv (pedE s l)]) := by
  have hp := pedigree_ok (r := r) (b := b) hs hl
  refine VP.of (fn := Try.f10) tb_ok rfl (by kernel_rfl) rfl rfl rfl ?_
  refine VSt.run tb_ok false [] 200 rfl trivial ?_
  by_cases h : pedE s l = 0
  · rw [if_pos h, h] at hp
    have hv := valid_of (pedE_of h).1
    have hn : s.copies.length ≤ 7 := hv.c
    have hpl : ∀ k, k < s.copies.length → parF s l k < s.copies.length := fun k _ => place_lt s _
    have ec : costOfI s l = costP s (parF s l) s.copies.length := if_pos h
    first | refine VSt.pc rfl rfl rfl rfl rfl rfl rfl rfl (hp) ?_ | refine VSt.pcD rfl rfl rfl rfl rfl rfl rfl rfl (hp) ?_
    refine VSt.run tb_ok false [] 200 rfl trivial ?_
    refine VSt.cond rfl (fun h1 => absurd h1 (by decide)) (fun _ => ?_)
    refine VSt.run tb_ok false [] 200 rfl trivial ?_
    refine VSt.viewC (Wk.vw (ps := [(0, 0)]) (F0 := [(2, .ref 0 0), (8, iv 0), (20, .p (parsP s l)), (21, nv s.copies.length), (22, nv 0)]) (L0 := [(0, .cells ((eStem s).map .p) 27)]) ⟨rfl, rfl, (by repeat (first | exact wf_nil | refine wf_back rfl rfl rfl ?_)), _, rfl, LImp.refl _⟩) ?_
    refine VSt.viewC (Vw.freezeC 0 (eStem s) rfl rfl) ?_
    refine VSt.rangeF tb_ok s.copies.length (by omega) (fun k => [(2, .p (.fp (eStem s) 0)), (8, iv (costP s (parF s l) k)), (20, .p (parsP s l))]) (fun _ => []) (fun _ => True) rfl rfl (fun _ => rfl) ?_ trivial (fun k hk _ => ?_) (fun _ => ?_)
    · (refine Vw.sub' (subK (by repeat (first | exact sk_nil | refine sk_cons rfl ?_))))
    · have hk1 := hpl k hk
      have hb := costP_bd hv hpl k (Nat.le_of_lt hk)
      refine VSt.run tb_ok false [] 200 rfl (⟨hk, rfl⟩) ?_
      refine VSt.cond rfl (fun h1 => ?_) (fun h1 => ?_)
      · have h1 : decide (0 ≤ parF s l k) = true := h1
        have h2 := of_decide_eq_true h1
        have hc := costI_bd hv (i := (parF s l k).toNat) (k := k) (by omega)
        have e : costP s (parF s l) (k + 1) = costP s (parF s l) k + costI s (parF s l k).toNat k := by rw [costP, h1]; rfl
        have e2 : parF s l k = Int.ofNat (parF s l k).toNat := by simp only [Int.ofNat_eq_natCast]; omega
        refine VSt.run tb_ok false [33] 200 rfl trivial ?_
        first | refine VSt.putO 31 (nv (parF s l k).toNat) rfl (iv_nv e2) ?_ | refine VSt.putD 31 (nv (parF s l k).toNat) rfl (iv_nv e2) ?_ | refine VSt.putC 31 (nv (parF s l k).toNat) rfl (iv_nv e2) ?_
        first | refine VSt.pc rfl rfl rfl rfl rfl rfl rfl rfl ((cost_ok hv (i := (parF s l k).toNat) (j := k) (by omega) hk)) ?_ | refine VSt.pcD rfl rfl rfl rfl rfl rfl rfl rfl ((cost_ok hv (i := (parF s l k).toNat) (j := k) (by omega) hk)) ?_
        refine VSt.run tb_ok false [] 200 rfl trivial ?_
        first | refine VSt.pc rfl rfl rfl rfl rfl rfl rfl rfl ((VP.imp (sum_ok (b := false) (l := [costP s (parF s l) k, costI s (parF s l k).toNat k]) (by show 2 < 1000000; decide) (fun q hq => by match q, hq with | 0, _ => exact ⟨hb.1, by show costP s (parF s l) k ≤ _; omega⟩ | 1, _ => exact ⟨hc.1, by show costI s (parF s l k).toNat k ≤ _; omega⟩)) ⟨AImp.lst fun q hq => bs_ints [costP s (parF s l) k, costI s (parF s l k).toNat k] q hq, trivial⟩)) ?_ | refine VSt.pcD rfl rfl rfl rfl rfl rfl rfl rfl ((VP.imp (sum_ok (b := false) (l := [costP s (parF s l) k, costI s (parF s l k).toNat k]) (by show 2 < 1000000; decide) (fun q hq => by match q, hq with | 0, _ => exact ⟨hb.1, by show costP s (parF s l) k ≤ _; omega⟩ | 1, _ => exact ⟨hc.1, by show costI s (parF s l k).toNat k ≤ _; omega⟩)) ⟨AImp.lst fun q hq => bs_ints [costP s (parF s l) k, costI s (parF s l k).toNat k] q hq, trivial⟩)) ?_
        refine VSt.run tb_ok false [] 200 rfl trivial ?_
        have e3 : sumTo (fun q => ([costP s (parF s l) k, costI s (parF s l k).toNat k] : List Int).getD q 0) ([costP s (parF s l) k, costI s (parF s l k).toNat k] : List Int).length = costP s (parF s l) (k + 1) := by
          rw [e]
          show 0 + costP s (parF s l) k + costI s (parF s l k).toNat k = _
          rw [Int.zero_add]
        refine ⟨?_, trivial⟩
        dsimp only
        rw [← e3]
        (refine Vw.sub' (subK (by repeat (first | exact sk_nil | refine sk_cons rfl ?_))))
      · have h1 : decide (0 ≤ parF s l k) = false := h1
        have e : costP s (parF s l) (k + 1) = costP s (parF s l) k := by rw [costP, h1]; rfl
        refine VSt.run tb_ok false [] 200 rfl trivial ?_
        refine ⟨?_, trivial⟩
        dsimp only
        rw [e]
        (refine Vw.sub' (subK (by repeat (first | exact sk_nil | refine sk_cons rfl ?_))))
    · refine VSt.run tb_ok false [] 200 rfl trivial ?_
      refine EndsP.mk rfl rfl rfl ?_
      rw [ec, h]; rfl
  · rw [if_neg h] at hp
    have ec : costOfI s l = 0 := if_neg h
    first | refine VSt.pc rfl rfl rfl rfl rfl rfl rfl rfl (hp) ?_ | refine VSt.pcD rfl rfl rfl rfl rfl rfl rfl rfl (hp) ?_
    refine VSt.run tb_ok false [] 200 rfl trivial ?_
    refine VSt.cond rfl (fun h1 => ?_) (fun h1 => ?_)
    · refine VSt.run tb_ok false [] 200 rfl trivial ?_
      refine EndsP.mk rfl rfl rfl ?_
      rw [ec]; rfl
    · have h1 : (!(pedE s l == 0)) = false := h1
      exact absurd (by simpa using h1) h
end Go.Proofs.Ytncpeobcgmkkbaa
/- Walks: the errors of a pedigree. -/
set_option maxRecDepth 100000
namespace Go.Proofs.Ytncpeobcgmkkbaa
variable {r : Tr (List Value × TypeId)}
structure Slip where
  copy : Int
  place : Nat
  src : Int
  dst : Int
instance : Inhabited Slip := ⟨⟨0, 0, 0, 0⟩⟩
def eSlip (x : Slip) : List PV := [.int .i64 x.copy, .int .i64 (Int.ofNat x.place), .int .i64 x.src, .int .i64 x.dst]
def fSl (l : List Slip) : Nat → List PV := fun q => eSlip (l.getD q default)
def eSlips (b : Bool) (l : List Slip) : PV := .lst 41 b l.length (fSl l)
/-- The errors at the first k places. -/
def slipsF (s : Stem) (i j : Nat) : Nat → List Slip
  | 0 => []
  | k + 1 => bif wd s i k == wd s j k then slipsF s i j k else slipsF s i j k ++ [⟨idAt s j, k, wd s i k, wd s j k⟩]
/-- The errors of the first k copies. -/
def allF (s : Stem) (p : Nat → Int) : Nat → List Slip
  | 0 => []
  | k + 1 => bif decide (p k < 0) then allF s p k else allF s p k ++ slipsF s (p k).toNat k (s.copies.getD k default).words.length
def memSl (l : List Slip) : VS := [(1, .cells [.acc true 2 4 l.length] 35), (2, .acc l.length 4 (fSl l) 41)]
open Classical in
noncomputable def slipsV (s : Stem) (l : List Int) : PV := if pedE s l = 0 then eSlips (allF s (parF s l) s.copies.length).isEmpty (allF s (parF s l) s.copies.length) else .lst 0 true 0 fun _ => []
end Go.Proofs.Ytncpeobcgmkkbaa
/- Walks: the first least pedigree; what an error costs. -/
set_option maxRecDepth 100000
namespace Go.Proofs.Ytncpeobcgmkkbaa
variable {r : Tr (List Value × TypeId)}
def firstP (s : Stem) : Nat → Int := (searchS s).least.getD 0 fun _ => 0
/-- The Ids of the parents of the first least pedigree. -/
def pedL (s : Stem) : List Int := (List.range s.copies.length).map fun k => idOf s (firstP s k)
def pedR (s : Stem) : List Int := if studE s = 0 then pedL s else []
/-- What an error costs. -/
def priceI (c : Costs) (a b : Int) : Int := bif b == 0 then c.lose else bif a == 0 then c.gain else bif (a - b == 1) || (b - a == 1) then c.like else c.turn
/-- What errors cost together. -/
def sumPr (c : Costs) (l : List Slip) : Int := (l.map fun x => priceI c x.src x.dst).sum
end Go.Proofs.Ytncpeobcgmkkbaa
/- The search finds just the least trees. -/
set_option maxRecDepth 100000
namespace Go.Proofs.Ytncpeobcgmkkbaa
theorem costP_ext {s : Stem} {p q : Nat → Int} : ∀ {k : Nat}, (∀ j, j < k → p j = q j) → costP s p k = costP s q k
  | 0, _ => rfl
  | k + 1, h => by
    unfold costP
    rw [costP_ext (k := k) (fun j hj => h j (by omega)), h k (by omega)]
theorem rootsN_ext {p q : Nat → Int} : ∀ {k : Nat}, (∀ j, j < k → p j = q j) → rootsN p k = rootsN q k
  | 0, _ => rfl
  | k + 1, h => by
    unfold rootsN
    rw [rootsN_ext (k := k) (fun j hj => h j (by omega)), h k (by omega)]
theorem rootsN_step (p : Nat → Int) (k : Nat) : rootsN p (k + 1) = rootsN p k + (if p k < 0 then 1 else 0) := by
  rw [rootsN]
  by_cases h : p k < 0
  · rw [decide_eq_true h, if_pos h]; rfl
  · rw [decide_eq_false h, if_neg h]; rfl
theorem rootsN_mono (p : Nat → Int) {i : Nat} : ∀ d, rootsN p i ≤ rootsN p (i + d)
  | 0 => Nat.le_refl _
  | d + 1 => by
    have := rootsN_mono p (i := i) d
    rw [← Nat.add_assoc, rootsN_step]
    omega
theorem costP_root {s : Stem} {p : Nat → Int} {k : Nat} (h : p k < 0) : costP s p (k + 1) = costP s p k := by
  rw [costP, decide_eq_false (show ¬ 0 ≤ p k by omega)]; rfl
theorem costP_kid {s : Stem} {p : Nat → Int} {k : Nat} (h : 0 ≤ p k) : costP s p (k + 1) = costP s p k + costI s (p k).toNat k := by
  rw [costP, decide_eq_true h]; rfl
theorem cellM_cost {s : Stem} {i k : Nat} (h : cellM s i k ≠ -1) : cellM s i k = costI s i k := by
  unfold cellM at h ⊢
  split at h
  · exact absurd rfl h
  · rename_i h1
    split at h
    · exact absurd rfl h
    · rename_i h2
      rw [if_neg h1, if_neg h2]
/-- A part of a tree: the parents of the first i copies. -/
structure Part (s : Stem) (p : Nat → Int) (i : Nat) : Prop where
  ge : ∀ k, k < i → -1 ≤ p k
  lt : ∀ k, k < i → p k < s.copies.length
  may : ∀ k, k < i → 0 ≤ p k → cellM s (p k).toNat k ≠ -1
  ac : Acyc p i
  one : rootsN p i ≤ 1
/-- A pedigree, by indices. -/
structure TreeS (s : Stem) (p : Nat → Int) : Prop where
  part : Part s p s.copies.length
  root : rootsN p s.copies.length = 1
theorem leastTo_spec {s : Stem} {c : Nat} : ∀ {k i : Nat}, i < k → cellM s i c ≠ -1 → leastTo s c k ≠ -1 ∧ leastTo s c k ≤ cellM s i c
  | 0, i, h, _ => absurd h (Nat.not_lt_zero i)
  | k + 1, i, h, hc => by
    unfold leastTo
    by_cases e : i = k
    · subst e
      have h1 : (!(cellM s i c == -1)) = true := by simpa using hc
      rw [h1, Bool.true_and]
      cases hb : ((leastTo s c i == -1) || decide (cellM s i c < leastTo s c i)) with
      | true => exact ⟨hc, Int.le_refl _⟩
      | false =>
        simp only [cond_false]
        rw [Bool.or_eq_false_iff] at hb
        have h2 := of_decide_eq_false hb.2
        exact ⟨by simpa using hb.1, by omega⟩
    · have ih := leastTo_spec (s := s) (c := c) (k := k) (i := i) (by omega) hc
      cases hb : ((!(cellM s k c == -1)) && ((leastTo s c k == -1) || decide (cellM s k c < leastTo s c k))) with
      | true =>
        simp only [cond_true]
        rw [Bool.and_eq_true, Bool.or_eq_true] at hb
        obtain ⟨h1, h2⟩ := hb
        refine ⟨by simpa using h1, ?_⟩
        rcases h2 with h2 | h2
        · exact absurd (by simpa using h2) ih.1
        · have := of_decide_eq_true h2; omega
      | false => exact ih
theorem floor_low {s : Stem} (hv : s.Valid) {q : Nat → Int} (hq : TreeS s q) (i : Nat) : ∀ d, i + d ≤ s.copies.length →
    costP s q i + (floorT s i d).1 - (if rootsN q (i + d) = rootsN q i then 0 else (floorT s i d).2) ≤ costP s q (i + d)
  | 0, _ => by simp [floorT]
  | d + 1, h => by
    have ih := floor_low hv hq i d (by omega)
    have hb := floorT_bd hv i d
    have hm := rootsN_mono q (i := i) d
    have hr := hq.root
    have hm2 := rootsN_mono q (i := i + d + 1) (s.copies.length - (i + d + 1))
    rw [show i + d + 1 + (s.copies.length - (i + d + 1)) = s.copies.length by omega, hr] at hm2
    rw [← Nat.add_assoc, rootsN_step] at *
    simp only [floorT]
    by_cases hk : q (i + d) < 0
    · rw [if_pos hk] at hm2 ⊢
      rw [costP_root hk, if_neg (show ¬ rootsN q (i + d) + 1 = rootsN q i by omega)]
      rw [if_pos (show rootsN q (i + d) = rootsN q i by omega)] at ih
      omega
    · have h0 : 0 ≤ q (i + d) := by omega
      have hmay := hq.part.may (i + d) (by omega) h0
      have hlt := hq.part.lt (i + d) (by omega)
      have hls := leastTo_spec (s := s) (c := i + d) (k := s.copies.length) (i := (q (i + d)).toNat) (by omega) hmay
      have hcc := cellM_cost hmay
      have hcb := costI_bd hv (i := (q (i + d)).toNat) (k := i + d) (by omega)
      rw [if_neg hk, Nat.add_zero] at hm2 ⊢
      rw [costP_kid h0]
      split
      · rename_i e
        rw [if_pos e] at ih
        omega
      · rename_i e
        rw [if_neg e] at ih
        omega
theorem floor_cut {s : Stem} (hv : s.Valid) {q : Nat → Int} (hq : TreeS s q) {i : Nat} (h : i ≤ s.copies.length) : costP s q i + floorI s i ≤ costP s q s.copies.length := by
  have h1 := floor_low hv hq i (s.copies.length - i) (by omega)
  have hb := floorT_bd hv i (s.copies.length - i)
  rw [show i + (s.copies.length - i) = s.copies.length by omega] at h1
  unfold floorI
  split at h1 <;> omega
theorem floor_end (s : Stem) : floorI s s.copies.length = 0 := by
  unfold floorI
  rw [Nat.sub_self]; rfl
theorem upF_through {q : Nat → Int} {i N : Nat} (hN : i < N) : ∀ {m f : Nat}, upF q i m f = some i → ∃ t, ∀ M, upF q N (t + M) f = upF q N M i
  | 0, _, h => by cases h
  | m + 1, f, h => by
    rw [upF_eq] at h
    split at h
    · rename_i hc
      obtain ⟨t, ht⟩ := upF_through hN h
      refine ⟨t + 1, fun M => ?_⟩
      rw [show t + 1 + M = (t + M) + 1 by omega, upF_eq, if_pos ⟨by omega, hc.2⟩]
      exact ht M
    · cases h
      exact ⟨0, fun M => by rw [Nat.zero_add]⟩
theorem upF_never {q : Nat → Int} {N i t : Nat} (h : ∀ M, upF q N (t + 1 + M) i = upF q N M i) : ∀ (b M : Nat), M ≤ b → ∀ r, upF q N M i ≠ some r
  | 0, M, hM, r, hr => by
    have : M = 0 := by omega
    subst this; cases hr
  | b + 1, M, hM, r, hr => by
    by_cases hlt : M < t + 1
    · have h1 := upF_le hr (Nat.le_of_lt hlt)
      have h2 := h 0
      rw [Nat.add_zero] at h2
      rw [h2] at h1; cases h1
    · have h2 := h (M - (t + 1))
      rw [show t + 1 + (M - (t + 1)) = M by omega, hr] at h2
      exact upF_never h b (M - (t + 1)) (by omega) r h2.symm
theorem tree_open {q : Nat → Int} {N i : Nat} (ha : Acyc q N) (hi : i < N) (h0 : 0 ≤ q i) : closesB q i (q i).toNat = false := by
  unfold closesB
  cases h : upF q i (fuelOf i) (q i).toNat with
  | none => rfl
  | some r =>
    show (Int.ofNat r == Int.ofNat i) = false
    by_cases e : r = i
    · subst e
      obtain ⟨t, ht⟩ := upF_through hi h
      obtain ⟨x, hx⟩ := ha r
      refine absurd hx (upF_never (t := t) (fun M => ?_) _ _ (Nat.le_refl _) x)
      rw [show t + 1 + M = (t + M) + 1 by omega, upF_eq, if_pos ⟨hi, h0⟩]
      exact ht M
    · rw [beq_eq_false_iff_ne]; exact fun h => e (Int.ofNat_inj.1 h)
/-- What has been found is least trees. -/
structure GoodS (s : Stem) (σ : SS) : Prop where
  f : σ.found = false → σ.least = []
  ne : σ.found = true → σ.least ≠ []
  all : ∀ p, p ∈ σ.least → TreeS s p ∧ costP s p s.copies.length = σ.cost
/-- A tree that has been looked at. -/
def Cov (s : Stem) (σ : SS) (q : Nat → Int) : Prop := σ.found = true ∧ σ.cost ≤ costP s q s.copies.length ∧ (costP s q s.copies.length = σ.cost → ∃ p, p ∈ σ.least ∧ ∀ j, j < s.copies.length → p j = q j)
def LeS (s : Stem) (σ σ' : SS) : Prop := ∀ q, Cov s σ q → Cov s σ' q
theorem LeS.refl (s : Stem) (σ : SS) : LeS s σ σ := fun _ h => h
theorem LeS.trans {s : Stem} {a b c : SS} (h : LeS s a b) (k : LeS s b c) : LeS s a c := fun q hq => k q (h q hq)
/-- What a step does. -/
structure DoesS (s : Stem) (i : Nat) (σ σ' : SS) (W : (Nat → Int) → Prop) : Prop where
  good : GoodS s σ'
  le : LeS s σ σ'
  cov : ∀ q, TreeS s q → (∀ j, j < i → σ.par j = q j) → W q → Cov s σ' q
theorem leaf_does {s : Stem} {σ : SS} {c : Int} {rt : Bool} (hg : GoodS s σ) (hp : Part s σ.par s.copies.length) (hc : c = costP s σ.par s.copies.length) (hr : (rootsN σ.par s.copies.length == 1) = rt) (hle : σ.found = true → c ≤ σ.cost) :
    DoesS s s.copies.length σ (leafS c rt σ) (fun _ => True) := by
  unfold leafS
  cases rt with
  | false =>
    refine ⟨hg, LeS.refl _ _, fun q hq he _ => ?_⟩
    have h1 : rootsN σ.par s.copies.length ≠ 1 := by simpa using hr
    exact absurd ((rootsN_ext he).trans hq.root) h1
  | true =>
    have h1 : rootsN σ.par s.copies.length = 1 := by simpa using hr
    have ht : TreeS s σ.par := ⟨hp, h1⟩
    cases hn : (!σ.found || decide (c < σ.cost)) with
    | true =>
      simp only [cond_true]
      refine ⟨⟨(fun h => Bool.noConfusion h), fun _ => by simp, fun p hp => ?_⟩, fun q hq => ?_, fun q hq he _ => ⟨rfl, ?_, fun _ => ⟨σ.par, by simp, he⟩⟩⟩
      · have : p = σ.par := by simpa using hp
        subst this; exact ⟨ht, hc.symm⟩
      · obtain ⟨h2, h3, h4⟩ := hq
        rw [h2] at hn
        have h5 : c < σ.cost := by simpa using hn
        exact ⟨rfl, by show c ≤ _; omega, fun e => by have e : costP s q s.copies.length = c := e; omega⟩
      · show c ≤ _
        rw [hc, costP_ext he]; exact Int.le_refl _
    | false =>
      simp only [cond_true, cond_false]
      rw [Bool.or_eq_false_iff] at hn
      have h2 : σ.found = true := by simpa using hn.1
      have h3 := of_decide_eq_false hn.2
      have h4 := hle h2
      have h5 : c = σ.cost := by omega
      refine ⟨⟨fun h => absurd (h2.symm.trans h) (by decide), fun _ => by simp, fun p hp => ?_⟩, fun q hq => ⟨hq.1, hq.2.1, fun e => ?_⟩, fun q hq he _ => ⟨h2, ?_, fun _ => ⟨σ.par, by simp, he⟩⟩⟩
      · have hp : p ∈ σ.least ++ [σ.par] := hp
        rcases List.mem_append.1 hp with hp | hp
        · exact hg.all p hp
        · have : p = σ.par := by simpa using hp
          subst this; exact ⟨ht, by rw [← hc, h5]⟩
      · obtain ⟨p, h6, h7⟩ := hq.2.2 e
        exact ⟨p, List.mem_append_left _ h6, h7⟩
      · show σ.cost ≤ _
        rw [← h5, hc, costP_ext he]; exact Int.le_refl _
theorem GoodS.set {s : Stem} {σ : SS} (h : GoodS s σ) (i : Nat) (x : Int) : GoodS s (σ.set i x) := ⟨h.f, h.ne, h.all⟩
theorem Part.keep {s : Stem} {p p' : Nat → Int} {i : Nat} (h : Part s p i) (e : ∀ q, q < i → p' q = p q) : Part s p' i :=
  ⟨fun k hk => by rw [e k hk]; exact h.ge k hk, fun k hk => by rw [e k hk]; exact h.lt k hk, fun k hk h0 => by rw [e k hk] at h0 ⊢; exact h.may k hk h0, acyc_ext (fun j hj => (e j hj).symm) h.ac, by rw [rootsN_ext e]; exact h.one⟩
theorem setP_lt {p : Nat → Int} {i : Nat} {x : Int} : ∀ j, j < i → setP p i x j = p j := fun j hj => setP_ne (by omega)
theorem Part.root {s : Stem} {p : Nat → Int} {i : Nat} (h : Part s p i) (hn : i < s.copies.length) (h0 : rootsN p i = 0) : Part s (setP p i (-1)) (i + 1) := by
  refine ⟨fun k hk => ?_, fun k hk => ?_, fun k hk hp => ?_, acyc_set h.ac (-1) (.inl (by decide)), ?_⟩
  · by_cases e : k = i
    · subst e; rw [setP_eq]; omega
    · rw [setP_ne e]; exact h.ge k (by omega)
  · by_cases e : k = i
    · subst e; rw [setP_eq]; omega
    · rw [setP_ne e]; exact h.lt k (by omega)
  · by_cases e : k = i
    · subst e; rw [setP_eq] at hp; omega
    · rw [setP_ne e] at hp ⊢; exact h.may k (by omega) hp
  · rw [rootsN_step, rootsN_ext setP_lt, h0, setP_eq]; decide
theorem Part.kid {s : Stem} {p : Nat → Int} {i m : Nat} (h : Part s p i) (hm : m < s.copies.length) (hc : cellM s m i ≠ -1) (ho : closesB p i m = false) : Part s (setP p i (Int.ofNat m)) (i + 1) := by
  refine ⟨fun k hk => ?_, fun k hk => ?_, fun k hk hp => ?_, acyc_set h.ac (Int.ofNat m) (.inr ho), ?_⟩
  · by_cases e : k = i
    · subst e; rw [setP_eq]; simp only [Int.ofNat_eq_natCast]; omega
    · rw [setP_ne e]; exact h.ge k (by omega)
  · by_cases e : k = i
    · subst e; rw [setP_eq]; simp only [Int.ofNat_eq_natCast]; omega
    · rw [setP_ne e]; exact h.lt k (by omega)
  · by_cases e : k = i
    · subst e; rw [setP_eq]; exact hc
    · rw [setP_ne e] at hp ⊢; exact h.may k (by omega) hp
  · rw [rootsN_step, rootsN_ext setP_lt, setP_eq, if_neg (by simp only [Int.ofNat_eq_natCast]; omega)]; exact h.one
theorem loop_does {s : Stem} {i : Nat} {c : Int} {rt : Bool} {next : Int → SS → SS} (hi : i < s.copies.length) {σ : SS} (hg : GoodS s σ) (hp : Part s σ.par i) (hc : c = costP s σ.par i) (hr : (rootsN σ.par i == 1) = rt)
    (hk : ∀ c' σ', Keeps (i + 1) σ' (next c' σ'))
    (hn : ∀ c' σ', GoodS s σ' → Part s σ'.par (i + 1) → c' = costP s σ'.par (i + 1) → (rootsN σ'.par (i + 1) == 1) = rt → DoesS s (i + 1) σ' (next c' σ') (fun _ => True)) :
    ∀ m, m ≤ s.copies.length → DoesS s i σ (loopS s i c next m σ) (fun q => 0 ≤ q i ∧ q i < m)
  | 0, _ => ⟨hg, LeS.refl _ _, fun q _ _ h => by have := h.1; have := h.2; omega⟩
  | m + 1, hm => by
    have ih := loop_does hi hg hp hc hr hk hn m (by omega)
    have hkeep := loopS_keeps (s := s) (i := i) (c := c) hk m σ
    have hpm : Part s (loopS s i c next m σ).par i := hp.keep hkeep.par
    unfold loopS
    cases hb : ((!(cellM s m i == -1)) && !closesB (loopS s i c next m σ).par i m) with
    | true =>
      rw [Bool.and_eq_true] at hb
      have h1 : cellM s m i ≠ -1 := by simpa using hb.1
      have h2 : closesB (loopS s i c next m σ).par i m = false := by simpa using hb.2
      have hmn : m < s.copies.length := by omega
      have hpar : ((loopS s i c next m σ).set i (Int.ofNat m)).par = setP (loopS s i c next m σ).par i (Int.ofNat m) := rfl
      have hco : c + cellM s m i = costP s ((loopS s i c next m σ).set i (Int.ofNat m)).par (i + 1) := by
        rw [hpar, costP_kid (by rw [setP_eq]; simp only [Int.ofNat_eq_natCast]; omega), setP_eq, costP_ext setP_lt, costP_ext hkeep.par, ← hc, cellM_cost h1]; rfl
      have hro : (rootsN ((loopS s i c next m σ).set i (Int.ofNat m)).par (i + 1) == 1) = rt := by
        rw [hpar, rootsN_step, setP_eq, if_neg (by simp only [Int.ofNat_eq_natCast]; omega), rootsN_ext setP_lt, rootsN_ext hkeep.par]; exact hr
      have hd := hn (c + cellM s m i) ((loopS s i c next m σ).set i (Int.ofNat m)) (ih.good.set _ _) (hpm.kid hmn h1 h2) hco hro
      simp only [cond_true]
      refine ⟨hd.good, ih.le.trans hd.le, fun q hq he hw => ?_⟩
      by_cases e : q i = Int.ofNat m
      · refine hd.cov q hq (fun j hj => ?_) trivial
        rw [hpar]
        by_cases ej : j = i
        · subst ej; rw [setP_eq, e]
        · rw [setP_ne ej, hkeep.par j (by omega)]; exact he j (by omega)
      · refine hd.le q (ih.cov q hq he ⟨hw.1, ?_⟩)
        have h3 := hw.2
        simp only [Int.ofNat_eq_natCast] at e
        omega
    | false =>
      simp only [cond_false]
      refine ⟨ih.good, ih.le, fun q hq he hw => ?_⟩
      by_cases e : q i = Int.ofNat m
      · exfalso
        have h0 : (q i).toNat = m := by rw [e]; rfl
        have h1 := hq.part.may i hi hw.1
        have h2 := tree_open hq.part.ac hi hw.1
        rw [h0] at h1 h2
        rw [closesB_ext (p' := q) (fun j hj => (hkeep.par j hj).trans (he j hj)), h2] at hb
        have h3 : (!(cellM s m i == -1)) = true := by simpa using h1
        rw [h3] at hb; exact absurd hb (by decide)
      · refine ih.cov q hq he ⟨hw.1, ?_⟩
        have h3 := hw.2
        simp only [Int.ofNat_eq_natCast] at e
        omega
theorem cut_does {s : Stem} (hv : s.Valid) {i : Nat} {c : Int} {σ : SS} (hi : i ≤ s.copies.length) (hg : GoodS s σ) (hc : c = costP s σ.par i) (h : cutB s i c σ = true) : DoesS s i σ σ (fun _ => True) := by
  unfold cutB at h
  rw [Bool.and_eq_true] at h
  have h1 := of_decide_eq_true h.2
  refine ⟨hg, LeS.refl _ _, fun q hq he _ => ?_⟩
  have h2 := floor_cut hv hq hi
  rw [hc, costP_ext he] at h1
  exact ⟨h.1, by omega, fun e => by omega⟩
theorem step_does {s : Stem} (hv : s.Valid) : ∀ (k i : Nat) (c : Int) (rt : Bool) (σ : SS), i + k = s.copies.length → GoodS s σ → Part s σ.par i → c = costP s σ.par i → (rootsN σ.par i == 1) = rt → DoesS s i σ (stepS s k i c rt σ) (fun _ => True) := by
  intro k
  induction k with
  | zero =>
    intro i c rt σ hik hg hp hc hr
    have hi : i = s.copies.length := hik
    subst hi
    unfold stepS
    cases h : cutB s s.copies.length c σ with
    | true => exact cut_does hv (Nat.le_refl _) hg hc h
    | false =>
      refine leaf_does hg hp hc hr fun hf => ?_
      unfold cutB at h
      rw [hf, Bool.true_and, floor_end, Int.add_zero] at h
      have := of_decide_eq_false h
      omega
  | succ k ih =>
    intro i c rt σ hik hg hp hc hr
    have hi : i < s.copies.length := by omega
    unfold stepS
    cases h : cutB s i c σ with
    | true => exact cut_does hv (Nat.le_of_lt hi) hg hc h
    | false =>
      simp only [cond_false]
      have hk : ∀ c' σ', Keeps (i + 1) σ' (stepS s k (i + 1) c' rt σ') := fun c' σ' => stepS_keeps s k (i + 1) c' rt σ'
      have hn : ∀ c' σ', GoodS s σ' → Part s σ'.par (i + 1) → c' = costP s σ'.par (i + 1) → (rootsN σ'.par (i + 1) == 1) = rt → DoesS s (i + 1) σ' (stepS s k (i + 1) c' rt σ') (fun _ => True) := fun c' σ' h1 h2 h3 h4 => ih (i + 1) c' rt σ' (by omega) h1 h2 h3 h4
      cases hrt : rt with
      | true =>
        simp only [cond_true]
        have hl := loop_does hi hg hp hc hr hk hn s.copies.length (Nat.le_refl _)
        rw [hrt] at hl
        refine ⟨hl.good, hl.le, fun q hq he _ => hl.cov q hq he ⟨?_, hq.part.lt i hi⟩⟩
        have h1 : rootsN σ.par i = 1 := by rw [hrt] at hr; simpa using hr
        have h2 := hq.root
        have h3 := rootsN_mono q (i := i + 1) (s.copies.length - (i + 1))
        rw [show i + 1 + (s.copies.length - (i + 1)) = s.copies.length by omega, h2, rootsN_step, ← rootsN_ext he, h1] at h3
        split at h3 <;> omega
      | false =>
        simp only [cond_false]
        have h0 : rootsN σ.par i = 0 := by
          have h1 : rootsN σ.par i ≠ 1 := by rw [hrt] at hr; simpa using hr
          have := hp.one; omega
        have hs1 := ih (i + 1) c true (σ.set i (-1)) (by omega) (hg.set _ _) (hp.root hi h0) (by
          show c = costP s (setP σ.par i (-1)) (i + 1)
          rw [costP_root (by rw [setP_eq]; decide), costP_ext setP_lt, hc]) (by
          show (rootsN (setP σ.par i (-1)) (i + 1) == 1) = true
          rw [rootsN_step, rootsN_ext setP_lt, h0, setP_eq]; rfl)
        have hkeep : Keeps i σ (stepS s k (i + 1) c true (σ.set i (-1))) := Keeps.set (stepS_keeps s k (i + 1) c true _)
        have hl := loop_does (c := c) hi hs1.good (hp.keep hkeep.par) (by rw [costP_ext hkeep.par]; exact hc) (by rw [rootsN_ext hkeep.par]; exact hr) hk hn s.copies.length (Nat.le_refl _)
        rw [hrt] at hl
        refine ⟨hl.good, fun q hq => hl.le q (hs1.le q hq), fun q hq he _ => ?_⟩
        by_cases e : q i < 0
        · refine hl.le q (hs1.cov q hq (fun j hj => ?_) trivial)
          show setP σ.par i (-1) j = q j
          by_cases ej : j = i
          · subst ej
            rw [setP_eq]
            have := hq.part.ge j hi; omega
          · rw [setP_ne ej]; exact he j (by omega)
        · exact hl.cov q hq (fun j hj => (hkeep.par j hj).trans (he j hj)) ⟨by omega, hq.part.lt i hi⟩
theorem part_zero (s : Stem) (p : Nat → Int) : Part s p 0 := ⟨fun k hk => absurd hk (Nat.not_lt_zero k), fun k hk => absurd hk (Nat.not_lt_zero k), fun k hk => absurd hk (Nat.not_lt_zero k), acyc_zero _, Nat.zero_le _⟩
theorem search_does {s : Stem} (hv : s.Valid) : GoodS s (searchS s) ∧ ∀ q, TreeS s q → Cov s (searchS s) q := by
  have h := step_does hv s.copies.length 0 0 false startS (Nat.zero_add _) ⟨fun _ => rfl, (fun h => Bool.noConfusion h), (fun p hp => nomatch hp)⟩ (part_zero s _) rfl rfl
  exact ⟨h.good, fun q hq => h.cov q hq (fun j hj => absurd hj (Nat.not_lt_zero j)) trivial⟩
end Go.Proofs.Ytncpeobcgmkkbaa
/- Pedigrees by Ids are trees by indices. -/
set_option maxRecDepth 100000
namespace Go.Proofs.Ytncpeobcgmkkbaa
theorem place_id {s : Stem} {a : Int} (h : 0 ≤ place s a) : (place s a).toNat < s.copies.length ∧ idAt s (place s a).toNat = a := by
  unfold place at *
  rcases idxC_lt (l := s.copies) (p := fun c => c.id == a) with e | ⟨k, hk, e, hp⟩
  · rw [e] at h; exact absurd h (by decide)
  · rw [e]
    exact ⟨hk, by show (s.copies.getD k default).id = a; simpa using hp⟩
theorem Stem.Valid.ids {s : Stem} (hv : s.Valid) : Asc s.copies := fun _ h0 hk => hv.asc hk h0
theorem Stem.Valid.id_pos {s : Stem} (hv : s.Valid) {k : Nat} (hk : k < s.copies.length) : 1 ≤ idAt s k := (ckCopy_of (hv.copy hk)).1.1
theorem place_at {s : Stem} (hv : s.Valid) {k : Nat} (hk : k < s.copies.length) : place s (idAt s k) = Int.ofNat k := by
  unfold place
  refine idxC_hit hk (by show ((s.copies.getD k default).id == idAt s k) = true; exact beq_self_eq_true _) fun i hi => ?_
  have := hv.ids.lt hi hk
  show ((s.copies.getD i default).id == (s.copies.getD k default).id) = false
  exact beq_false_of_ne (by omega)
theorem place_zero {s : Stem} (hv : s.Valid) : place s 0 < 0 := by
  by_cases h : 0 ≤ place s 0
  · obtain ⟨h1, h2⟩ := place_id h
    have := hv.id_pos h1
    omega
  · omega
theorem idAt_inj {s : Stem} (hv : s.Valid) {i k : Nat} (hi : i < s.copies.length) (hk : k < s.copies.length) (h : idAt s i = idAt s k) : i = k := by
  have h1 := place_at hv hi
  rw [h, place_at hv hk] at h1
  exact (Int.ofNat_inj.1 h1).symm
theorem fuel_ge : ∀ n, n + 1 ≤ fuelOf n
  | 0 => Nat.le_refl _
  | n + 1 => by
    have := fuel_ge n
    show n + 1 + 1 ≤ fuelOf n + (fuelOf n + 1)
    omega
theorem walk_up {p : Nat → Int} {n : Nat} (hp : ∀ k, k < n → p k < n) : ∀ (m a : Nat), a < n → p (walkU p m a) < 0 → upF p n (m + 1) a = some (walkU p m a)
  | 0, a, ha, h => by
    rw [upF_eq, if_neg]
    · rfl
    · intro h2
      have : p a < 0 := h
      omega
  | m + 1, a, ha, h => by
    by_cases h0 : 0 ≤ p a
    · rw [walkU_step h0] at h ⊢
      rw [upF_eq, if_pos ⟨ha, h0⟩]
      exact walk_up hp m _ (by have := hp a ha; omega) h
    · rw [upF_eq, if_neg (fun h2 => h0 h2.2), walkU_stop h0]
theorem rooted_acyc {p : Nat → Int} {n : Nat} (hp : ∀ k, k < n → p k < n) (h : rootedB n p = true) : Acyc p n ∧ rootsN p n = 1 := by
  unfold rootedB at h
  rw [Bool.and_eq_true, List.all_eq_true] at h
  refine ⟨fun f => ?_, ?_⟩
  · by_cases hf : f < n
    · have h1 := of_decide_eq_true (h.1 f (List.mem_range.2 hf))
      exact ⟨_, upF_le (walk_up hp n f hf h1) (fuel_ge n)⟩
    · exact ⟨f, upF_le (m := 1) (by rw [upF_eq, if_neg (fun h2 => hf h2.1)]) (by have := fuel_ge n; omega)⟩
  · have h2 : Int.ofNat (rootsN p n) = 1 := by simpa using h.2
    exact Int.ofNat_inj.1 h2
theorem isPed_tree {s : Stem} {l : List Int} (hv : s.Valid) (h : isPed s l) : TreeS s (parF s l) := by
  have hlt : ∀ k, k < s.copies.length → parF s l k < s.copies.length := fun k _ => place_lt s _
  obtain ⟨h1, h2⟩ := rooted_acyc hlt h.2
  refine ⟨⟨fun k _ => place_ge s _, hlt, fun k hk h0 => ?_, h1, by omega⟩, h2⟩
  have hb := h.1.2 k hk
  obtain ⟨h3, h4⟩ := place_id h0
  have hl0 : l.getD k 0 ≠ 0 := fun e => by
    have := place_zero hv
    unfold parF at h0
    rw [e] at h0; omega
  unfold badP at hb
  rw [show (!(l.getD k 0 == 0)) = true by simpa using hl0, Bool.true_and, Bool.or_eq_false_iff, Bool.or_eq_false_iff] at hb
  obtain ⟨_, h5, h6⟩ := hb
  have h7 : ¬ parF s l k = Int.ofNat k := by simpa using h5
  unfold cellM
  rw [if_neg (show ¬ (parF s l k).toNat = k from fun e => h7 (by simp only [Int.ofNat_eq_natCast]; omega))]
  have h8 : idAt s (parF s l k).toNat = l.getD k 0 := h4
  rw [h8, h6, if_neg (by decide)]
  have := (costI_bd hv (i := (parF s l k).toNat) (k := k) h3).1
  omega
/-- How many of n copies have an end in m steps. -/
def doneN (p : Nat → Int) (n m : Nat) : Nat := (List.range n).countP fun f => (upF p n m f).isSome
theorem rootsN_zero {p : Nat → Int} : ∀ {n : Nat}, rootsN p n = 0 → ∀ k, k < n → 0 ≤ p k
  | 0, _, k, hk => absurd hk (Nat.not_lt_zero k)
  | n + 1, h, k, hk => by
    rw [rootsN_step] at h
    by_cases e : k = n
    · subst e
      by_cases h0 : p k < 0
      · rw [if_pos h0] at h; omega
      · omega
    · exact rootsN_zero (n := n) (by omega) k (by omega)
end Go.Proofs.Ytncpeobcgmkkbaa
/- Walks: the words of a copy, put right. -/
set_option maxRecDepth 100000
namespace Go.Proofs.Ytncpeobcgmkkbaa
variable {r : Tr (List Value × TypeId)}
/-- One error put right. -/
def fixS (id : Int) (n : Nat) (g : Nat → Int) (x : Slip) : Nat → Int := bif x.copy == id && (decide (x.place < n) && (g x.place == x.dst)) then setP g x.place x.src else g
/-- The words, the first k errors put right. -/
def fixK (id : Int) (n : Nat) (w : Nat → Int) (l : List Slip) : Nat → Nat → Int
  | 0 => w
  | k + 1 => fixS id n (fixK id n w l k) (l.getD k default)
end Go.Proofs.Ytncpeobcgmkkbaa
/- Walks: the law of errors. -/
set_option maxRecDepth 100000
namespace Go.Proofs.Ytncpeobcgmkkbaa
variable {r : Tr (List Value × TypeId)}
theorem ckStem_or (s : Stem) : ckStem s = 0 ∨ ckStem s = 42 := by
  unfold ckStem
  split
  · exact .inr rfl
  · exact .inl rfl
theorem studE_or {s : Stem} (h : ckStem s = 0) : studE s = 0 ∨ studE s = 45 := by
  unfold studE
  rw [if_pos h]
  split
  · exact .inr rfl
  · exact .inl rfl
def qflag (s : Stem) (b : Bool) (k : Nat) : Bool := if k = 0 then b else !studE s == 0
def qlist (s : Stem) (l : List Int) (k : Nat) : List Int := if k = 0 then l else pedR s
end Go.Proofs.Ytncpeobcgmkkbaa
/- Walks: the library's Index and Compact of ints. -/
set_option maxRecDepth 100000
namespace Go.Proofs.Ytncpeobcgmkkbaa
variable {r : Tr (List Value × TypeId)}
theorem Index_ok {b : Bool} {l : List Int} (x : Int) (hn : l.length < 9223372036854775808) : VP (sE r) 60 [.p (eInts b l), iv x] (iv (idxI l fun y => x == y)) := by
  refine VP.of (fn := Try.f60) tb_ok rfl (by kernel_rfl) rfl rfl rfl ?_
  refine VSt.go tb_ok false [] 200 rfl (by repeat (first | exact AllP.n | refine AllP.c (by first | assumption | rfl | omega | exact Nat.le_refl _ | (show 0 < _; omega) | (show 1 < _; omega) | (show 2 < _; omega) | (show 3 < _; omega) | (intro _ _; rfl) | (intro q hq; match q, hq with | 0, _ => rfl) | (unfold inR; (try simp only [Int.ofNat_eq_natCast]); omega)) ?_)) ?_
  refine VSt.rangeT tb_ok l.length hn [0, 1, 6] (fun _ => []) (fun _ => []) (fun k => ∀ i, i < k → (x == l.getD i 0) = false) rfl rfl rfl (fun _ => rfl) rfl rfl u0_nil trivial (fun i hi => absurd hi (Nat.not_lt_zero i)) (fun k hk hp => ?_) (fun hp => ?_)
  · refine VSt.go tb_ok false [] 200 rfl (by repeat (first | exact AllP.n | refine AllP.c (by first | assumption | rfl | omega | exact Nat.le_refl _ | (show 0 < _; omega) | (show 1 < _; omega) | (show 2 < _; omega) | (show 3 < _; omega) | (intro _ _; rfl) | (intro q hq; match q, hq with | 0, _ => rfl) | (unfold inR; (try simp only [Int.ofNat_eq_natCast]); omega)) ?_)) ?_
    refine VSt.cond rfl (fun h => ?_) (fun h => ?_)
    · have h : (x == l.getD k 0) = true := h
      refine VSt.go tb_ok false [] 200 rfl (by repeat (first | exact AllP.n | refine AllP.c (by first | assumption | rfl | omega | exact Nat.le_refl _ | (show 0 < _; omega) | (show 1 < _; omega) | (show 2 < _; omega) | (show 3 < _; omega) | (intro _ _; rfl) | (intro q hq; match q, hq with | 0, _ => rfl) | (unfold inR; (try simp only [Int.ofNat_eq_natCast]); omega)) ?_)) ?_
      refine EndsP.mk rfl rfl rfl ?_
      show iv _ = iv _
      rw [idxI_hit hk h hp]; rfl
    · have h : (x == l.getD k 0) = false := h
      refine VSt.go tb_ok false [] 200 rfl (by repeat (first | exact AllP.n | refine AllP.c (by first | assumption | rfl | omega | exact Nat.le_refl _ | (show 0 < _; omega) | (show 1 < _; omega) | (show 2 < _; omega) | (show 3 < _; omega) | (intro _ _; rfl) | (intro q hq; match q, hq with | 0, _ => rfl) | (unfold inR; (try simp only [Int.ofNat_eq_natCast]); omega)) ?_)) ?_
      refine ⟨by (refine Vw.drop (by repeat (first | exact wf_nil | refine wf_back rfl rfl rfl ?_ | refine wf_cons rfl (by assumption) (ren_only _ (by assumption)) ?_))), fun i hi => ?_⟩
      by_cases e : i = k
      · subst e; exact h
      · exact hp i (by omega)
  · refine VSt.go tb_ok false [] 200 rfl (by repeat (first | exact AllP.n | refine AllP.c (by first | assumption | rfl | omega | exact Nat.le_refl _ | (show 0 < _; omega) | (show 1 < _; omega) | (show 2 < _; omega) | (show 3 < _; omega) | (intro _ _; rfl) | (intro q hq; match q, hq with | 0, _ => rfl) | (unfold inR; (try simp only [Int.ofNat_eq_natCast]); omega)) ?_)) ?_
    refine EndsP.mk rfl rfl rfl ?_
    show iv _ = iv _
    rw [idxI_miss hp]
/-- Without those that are as the one ahead of them. -/
def ded (f : Nat → Int) : Nat → List Int
  | 0 => []
  | k + 1 => bif decide (0 < k) && (f k == f (k - 1)) then ded f k else ded f k ++ [f k]
theorem ded_skip {f : Nat → Int} {k : Nat} (h0 : 0 < k) (h : f k = f (k - 1)) : ded f (k + 1) = ded f k := by
  rw [ded, decide_eq_true h0, h, beq_self_eq_true]; rfl
theorem ded_add {f : Nat → Int} {k : Nat} (h : 0 < k → f k ≠ f (k - 1)) : ded f (k + 1) = ded f k ++ [f k] := by
  rw [ded]
  by_cases h0 : 0 < k
  · rw [beq_false_of_ne (h h0), Bool.and_false]; rfl
  · rw [decide_eq_false h0]; rfl
theorem ded_len (f : Nat → Int) : ∀ k, (ded f k).length ≤ k
  | 0 => Nat.le_refl _
  | k + 1 => by
    have := ded_len f k
    rw [ded]
    cases decide (0 < k) && (f k == f (k - 1)) with
    | true => exact Nat.le_succ_of_le this
    | false => simp only [cond_false, List.length_append, List.length_singleton]; omega
theorem ded_pos (f : Nat → Int) : ∀ {k : Nat}, 0 < k → 0 < (ded f k).length
  | k + 1, _ => by
    by_cases h0 : 0 < k
    · have := ded_pos f h0
      rw [ded]
      cases decide (0 < k) && (f k == f (k - 1)) with
      | true => exact this
      | false => simp only [cond_false, List.length_append, List.length_singleton]; omega
    · rw [ded_add (fun h => absurd h h0)]; simp
theorem ded_mem {f : Nat → Int} {x : Int} : ∀ {k : Nat}, x ∈ ded f k ↔ ∃ i, i < k ∧ f i = x
  | 0 => ⟨fun h => (by cases h), fun ⟨i, h, _⟩ => absurd h (Nat.not_lt_zero i)⟩
  | k + 1 => by
    by_cases h : 0 < k ∧ f k = f (k - 1)
    · rw [ded_skip h.1 h.2, ded_mem]
      refine ⟨fun ⟨i, h1, h2⟩ => ⟨i, by omega, h2⟩, fun ⟨i, h1, h2⟩ => ?_⟩
      by_cases e : i = k
      · subst e; exact ⟨i - 1, by omega, by rw [← h.2]; exact h2⟩
      · exact ⟨i, by omega, h2⟩
    · rw [ded_add (fun h0 e => h ⟨h0, e⟩), List.mem_append, ded_mem, List.mem_singleton]
      refine ⟨fun h => ?_, fun ⟨i, h1, h2⟩ => ?_⟩
      · rcases h with ⟨i, h1, h2⟩ | h
        · exact ⟨i, by omega, h2⟩
        · exact ⟨k, by omega, h.symm⟩
      · by_cases e : i = k
        · subst e; exact .inr h2.symm
        · exact .inl ⟨i, by omega, h2⟩
theorem ded_all {f : Nat → Int} : ∀ {k : Nat}, (∀ i, 0 < i → i < k → f i ≠ f (i - 1)) → ded f k = (List.range k).map f
  | 0, _ => rfl
  | k + 1, h => by
    rw [ded_add (fun h0 => h k h0 (by omega)), ded_all (k := k) (fun i h1 h2 => h i h1 (by omega)), List.range_succ, List.map_append]; rfl
theorem map_at {f : Nat → Int} {n k : Nat} (h : k < n) : ((List.range n).map f).getD k 0 = f k := by
  rw [List.getD_eq_getElem?_getD, List.getElem?_map, List.getElem?_range h]; rfl
/-- The state of the copying: j more looked at, m kept. -/
structure CmpInv (f : Nat → Int) (n k j m : Nat) (g : Nat → Int) : Prop where
  j1 : 1 ≤ j
  jn : j ≤ n - k
  km : k ≤ m
  mj : m + 1 ≤ k + j
  rest : ∀ i, m ≤ i → g i = f i
  len : (ded f (k + j)).length = m
  done : ∀ i, i < m → g i = (ded f (k + j)).getD i 0
theorem Compact_ok {n : Nat} {f : Nat → Int} (hn0 : 0 < n) (hn : n ≤ 1000000) : VC (sE r) [0] 62 [.sl 0 1 0 n n 0] [(0, .arr n 1 (fInts f) 3)]
    (fun a L => ∃ G, a = .sl 0 1 0 (ded f n).length n 0 ∧ L = [(0, .arr n 1 G 3)] ∧ ∀ k, k < (ded f n).length → G k = [.int .i64 ((ded f n).getD k 0)]) := by
  refine VC.of (fn := Try.f62) tb_ok rfl (by kernel_rfl) rfl rfl ?_
  have whole : (∀ i, 0 < i → i < n → f i ≠ f (i - 1)) → (ded f n).length = n ∧ ∀ k, k < n → fInts f k = [.int .i64 ((ded f n).getD k 0)] := fun h => by
    have e := ded_all h
    refine ⟨by rw [e, List.length_map, List.length_range], fun k hk => ?_⟩
    rw [e, map_at hk]; rfl
  refine VSt.go tb_ok false [] 200 rfl (by repeat (first | exact AllP.n | refine AllP.c (by first | assumption | rfl | omega | exact Nat.le_refl _ | (show 0 < _; omega) | (show 1 < _; omega) | (show 2 < _; omega) | (show 3 < _; omega) | (intro _ _; rfl) | (intro q hq; match q, hq with | 0, _ => rfl) | (unfold inR; (try simp only [Int.ofNat_eq_natCast]); omega)) ?_)) ?_
  refine VSt.cond rfl (fun h1 => ?_) (fun h1 => ?_)
  · have h1 : n = 1 := by have := of_decide_eq_true h1; simp only [Int.ofNat_eq_natCast] at this; omega
    have hw := whole (fun i hi h => by omega)
    refine VSt.go tb_ok false [] 200 rfl (by repeat (first | exact AllP.n | refine AllP.c (by first | assumption | rfl | omega | exact Nat.le_refl _ | (show 0 < _; omega) | (show 1 < _; omega) | (show 2 < _; omega) | (show 3 < _; omega) | (intro _ _; rfl) | (intro q hq; match q, hq with | 0, _ => rfl) | (unfold inR; (try simp only [Int.ofNat_eq_natCast]); omega)) ?_)) ?_
    exact ⟨rfl, _, [(0, 0)], .sl 0 1 0 (ded f n).length n 0, _, rfl, ⟨rfl, rfl, wf_imp rfl rfl (AImp.slE hw.1.symm rfl) wf_nil, _, rfl, LImp.refl _⟩, _, rfl, rfl, fun k hk => hw.2 k (by omega)⟩
  have h1 : 2 ≤ n := by have := of_decide_eq_false h1; simp only [Int.ofNat_eq_natCast] at this; omega
  refine VSt.go tb_ok false [] 200 rfl (by repeat (first | exact AllP.n | refine AllP.c (by first | assumption | rfl | omega | exact Nat.le_refl _ | (show 0 < _; omega) | (show 1 < _; omega) | (show 2 < _; omega) | (show 3 < _; omega) | (intro _ _; rfl) | (intro q hq; match q, hq with | 0, _ => rfl) | (unfold inR; (try simp only [Int.ofNat_eq_natCast]); omega)) ?_)) ?_
  refine VSt.loop (α := Nat) (fun k F L => 1 ≤ k ∧ k ≤ n ∧ (∀ i, 0 < i → i < k → f i ≠ f (i - 1)) ∧ F = [(0, .sl 0 1 0 n n 0), (3, nv k)] ∧ L = [(0, .arr n 1 (fInts f) 3)]) (fun k => n - k) 1 (by (refine Vw.sub' (subK (by repeat (first | exact sk_nil | refine sk_cons rfl ?_))))) ⟨Nat.le_refl _, by omega, fun i h2 h3 => by omega, rfl, rfl⟩ ?_
  rintro k F L ⟨hk1, hkn, hd, rfl, rfl⟩
  refine VSt.go tb_ok false [] 200 rfl (by repeat (first | exact AllP.n | refine AllP.c (by first | assumption | rfl | omega | exact Nat.le_refl _ | (show 0 < _; omega) | (show 1 < _; omega) | (show 2 < _; omega) | (show 3 < _; omega) | (intro _ _; rfl) | (intro q hq; match q, hq with | 0, _ => rfl) | (unfold inR; (try simp only [Int.ofNat_eq_natCast]); omega)) ?_)) ?_
  refine VSt.cond rfl (fun g1 => ?_) (fun g1 => ?_)
  · have g1 : k < n := by have := of_decide_eq_true g1; simp only [Int.ofNat_eq_natCast] at this; omega
    refine VSt.go tb_ok false [23] 200 rfl (by repeat (first | exact AllP.n | refine AllP.c (by first | assumption | rfl | omega | exact Nat.le_refl _ | (show 0 < _; omega) | (show 1 < _; omega) | (show 2 < _; omega) | (show 3 < _; omega) | (intro _ _; rfl) | (intro q hq; match q, hq with | 0, _ => rfl) | (unfold inR; (try simp only [Int.ofNat_eq_natCast]); omega)) ?_)) ?_
    first | refine VSt.putO 22 (nv (k - 1)) rfl (iv_nv (by simp only [Int.ofNat_eq_natCast]; omega)) ?_ | refine VSt.putD 22 (nv (k - 1)) rfl (iv_nv (by simp only [Int.ofNat_eq_natCast]; omega)) ?_ | refine VSt.putC 22 (nv (k - 1)) rfl (iv_nv (by simp only [Int.ofNat_eq_natCast]; omega)) ?_
    refine VSt.go tb_ok false [] 200 rfl (by repeat (first | exact AllP.n | refine AllP.c (by first | assumption | rfl | omega | exact Nat.le_refl _ | (show 0 < _; omega) | (show 1 < _; omega) | (show 2 < _; omega) | (show 3 < _; omega) | (intro _ _; rfl) | (intro q hq; match q, hq with | 0, _ => rfl) | (unfold inR; (try simp only [Int.ofNat_eq_natCast]); omega)) ?_)) ?_
    refine VSt.cond rfl (fun g2 => ?_) (fun g2 => ?_)
    · have g2 : f k = f (k - 1) := by
        have g2 : (f (0 + k) == f (0 + (k - 1))) = true := g2
        rw [Nat.zero_add, Nat.zero_add] at g2
        simpa using g2
      have e1 := ded_all hd
      have e2 := ded_skip (f := f) hk1 g2
      refine VSt.go tb_ok false [] 200 rfl (by repeat (first | exact AllP.n | refine AllP.c (by first | assumption | rfl | omega | exact Nat.le_refl _ | (show 0 < _; omega) | (show 1 < _; omega) | (show 2 < _; omega) | (show 3 < _; omega) | (intro _ _; rfl) | (intro q hq; match q, hq with | 0, _ => rfl) | (unfold inR; (try simp only [Int.ofNat_eq_natCast]); omega)) ?_)) ?_
      refine VSt.loop (α := Nat × Nat × (Nat → Int)) (fun x F L => CmpInv f n k x.1 x.2.1 x.2.2 ∧ F = [(0, .sl 0 1 0 n n 0), (3, nv x.2.1), (4, .sl 0 1 k (n - k) (n - k) 0), (5, nv x.1)] ∧ L = [(0, .arr n 1 (fInts x.2.2) 3)]) (fun x => n - k - x.1) (1, k, f) (?_) ⟨(show CmpInv f n k 1 k f from ⟨Nat.le_refl _, by omega, Nat.le_refl _, by omega, fun _ _ => rfl, by rw [e2, e1, List.length_map, List.length_range], fun i hi => by rw [e2, e1, map_at hi]⟩), rfl, rfl⟩ ?_
      · exact Wk.vw (ps := [(0, 0)]) ⟨rfl, rfl, wf_back rfl rfl rfl (wf_back rfl rfl rfl (wf_imp rfl rfl (AImp.of_eq (by show AV.sl 0 1 (0 + k) _ _ 0 = _; rw [Nat.zero_add])) (wf_back rfl rfl rfl wf_nil))), _, rfl, LImp.refl _⟩
      intro x F L hx
      obtain ⟨hI, rfl, rfl⟩ := hx
      have i1 := hI.j1
      have i2 := hI.jn
      have i3 := hI.km
      have i4 := hI.mj
      have r1 := hI.rest (k + x.1) (by omega)
      have r2 := hI.rest (k + (x.1 - 1)) (by omega)
      have r3 : k + (x.1 - 1) = k + x.1 - 1 := by omega
      refine VSt.go tb_ok false [] 200 rfl (by repeat (first | exact AllP.n | refine AllP.c (by first | assumption | rfl | omega | exact Nat.le_refl _ | (show 0 < _; omega) | (show 1 < _; omega) | (show 2 < _; omega) | (show 3 < _; omega) | (intro _ _; rfl) | (intro q hq; match q, hq with | 0, _ => rfl) | (unfold inR; (try simp only [Int.ofNat_eq_natCast]); omega)) ?_)) ?_
      refine VSt.cond rfl (fun g3 => ?_) (fun g3 => ?_)
      · have g3 : x.1 < n - k := by have := of_decide_eq_true g3; simp only [Int.ofNat_eq_natCast] at this; omega
        refine VSt.go tb_ok false [42] 200 rfl (by repeat (first | exact AllP.n | refine AllP.c (by first | assumption | rfl | omega | exact Nat.le_refl _ | (show 0 < _; omega) | (show 1 < _; omega) | (show 2 < _; omega) | (show 3 < _; omega) | (intro _ _; rfl) | (intro q hq; match q, hq with | 0, _ => rfl) | (unfold inR; (try simp only [Int.ofNat_eq_natCast]); omega)) ?_)) ?_
        first | refine VSt.putO 41 (nv (x.1 - 1)) rfl (iv_nv (by simp only [Int.ofNat_eq_natCast]; omega)) ?_ | refine VSt.putD 41 (nv (x.1 - 1)) rfl (iv_nv (by simp only [Int.ofNat_eq_natCast]; omega)) ?_ | refine VSt.putC 41 (nv (x.1 - 1)) rfl (iv_nv (by simp only [Int.ofNat_eq_natCast]; omega)) ?_
        refine VSt.go tb_ok false [] 200 rfl (by repeat (first | exact AllP.n | refine AllP.c (by first | assumption | rfl | omega | exact Nat.le_refl _ | (show 0 < _; omega) | (show 1 < _; omega) | (show 2 < _; omega) | (show 3 < _; omega) | (intro _ _; rfl) | (intro q hq; match q, hq with | 0, _ => rfl) | (unfold inR; (try simp only [Int.ofNat_eq_natCast]); omega)) ?_)) ?_
        refine VSt.cond rfl (fun g4 => ?_) (fun g4 => ?_)
        · have g4 : f (k + x.1) ≠ f (k + x.1 - 1) := by
            have g4 : (!(x.2.2 (k + x.1) == x.2.2 (k + (x.1 - 1)))) = true := g4
            rw [r1, r2, r3] at g4
            simpa using g4
          have e3 : ded f (k + (x.1 + 1)) = ded f (k + x.1) ++ [f (k + x.1)] := ded_add (k := k + x.1) (fun _ => g4)
          refine VSt.go tb_ok false [] 200 rfl (by repeat (first | exact AllP.n | refine AllP.c (by first | assumption | rfl | omega | exact Nat.le_refl _ | (show 0 < _; omega) | (show 1 < _; omega) | (show 2 < _; omega) | (show 3 < _; omega) | (intro _ _; rfl) | (intro q hq; match q, hq with | 0, _ => rfl) | (unfold inR; (try simp only [Int.ofNat_eq_natCast]); omega)) ?_)) ?_
          refine ⟨(x.1 + 1, x.2.1 + 1, setP x.2.2 x.2.1 (f (k + x.1))), _, _, Wk.vw (ps := [(0, 0)]) (F0 := [(0, .sl 0 1 0 n n 0), (3, nv (x.2.1 + 1)), (4, .sl 0 1 k (n - k) (n - k) 0), (5, nv (x.1 + 1))]) (L0 := [(0, .arr n 1 (fInts (setP x.2.2 x.2.1 (f (k + x.1)))) 3)]) ⟨rfl, rfl, (by repeat (first | exact wf_nil | refine wf_back rfl rfl rfl ?_)), _, rfl, ⟨rfl, BImp.arr' rfl (fun q _ => by rw [← r1]; exact set_cell _ _ _ q), trivial⟩⟩, ⟨(show CmpInv f n k (x.1 + 1) (x.2.1 + 1) (setP x.2.2 x.2.1 (f (k + x.1))) from ⟨by omega, by omega, by omega, by omega, fun i hi => ?_, ?_, fun i hi => ?_⟩), rfl, rfl⟩, by show n - k - (x.1 + 1) < n - k - x.1; omega⟩
          · have hi : x.2.1 + 1 ≤ i := hi
            show setP _ _ _ i = _
            rw [setP_ne (by omega)]
            exact hI.rest i (by omega)
          · show (ded f (k + (x.1 + 1))).length = x.2.1 + 1
            rw [e3, List.length_append, hI.len]; rfl
          · have hi : i < x.2.1 + 1 := hi
            show setP x.2.2 x.2.1 _ i = (ded f (k + (x.1 + 1))).getD i 0
            rw [e3, List.getD_eq_getElem?_getD]
            by_cases e : i = x.2.1
            · subst e
              rw [setP_eq, List.getElem?_append_right (by rw [hI.len]; exact Nat.le_refl _), hI.len, Nat.sub_self]; rfl
            · rw [setP_ne e, List.getElem?_append_left (by rw [hI.len]; omega), ← List.getD_eq_getElem?_getD]
              exact hI.done i (by omega)
        · have g4 : f (k + x.1) = f (k + x.1 - 1) := by
            have g4 : (!(x.2.2 (k + x.1) == x.2.2 (k + (x.1 - 1)))) = false := g4
            rw [r1, r2, r3] at g4
            simpa using g4
          have e3 : ded f (k + (x.1 + 1)) = ded f (k + x.1) := ded_skip (k := k + x.1) (by omega) g4
          refine VSt.go tb_ok false [] 200 rfl (by repeat (first | exact AllP.n | refine AllP.c (by first | assumption | rfl | omega | exact Nat.le_refl _ | (show 0 < _; omega) | (show 1 < _; omega) | (show 2 < _; omega) | (show 3 < _; omega) | (intro _ _; rfl) | (intro q hq; match q, hq with | 0, _ => rfl) | (unfold inR; (try simp only [Int.ofNat_eq_natCast]); omega)) ?_)) ?_
          refine ⟨(x.1 + 1, x.2.1, x.2.2), _, _, (by (refine Vw.sub' (subK (by repeat (first | exact sk_nil | refine sk_cons rfl ?_))))), ⟨(show CmpInv f n k (x.1 + 1) x.2.1 x.2.2 from ⟨by omega, by omega, by omega, by omega, hI.rest, ?_, ?_⟩), rfl, rfl⟩, by show n - k - (x.1 + 1) < n - k - x.1; omega⟩
          · show (ded f (k + (x.1 + 1))).length = x.2.1
            rw [e3]; exact hI.len
          · show ∀ i, i < x.2.1 → x.2.2 i = (ded f (k + (x.1 + 1))).getD i 0
            rw [e3]; exact hI.done
      · have g3 : x.1 = n - k := by have := of_decide_eq_false g3; simp only [Int.ofNat_eq_natCast] at this; omega
        have e3 : k + x.1 = n := by omega
        have h4 := hI.len
        rw [e3] at h4
        have h5 := hI.done
        rw [e3] at h5
        refine VSt.go tb_ok false [] 200 rfl (by repeat (first | exact AllP.n | refine AllP.c (by first | assumption | rfl | omega | exact Nat.le_refl _ | (show 0 < _; omega) | (show 1 < _; omega) | (show 2 < _; omega) | (show 3 < _; omega) | (intro _ _; rfl) | (intro q hq; match q, hq with | 0, _ => rfl) | (unfold inR; (try simp only [Int.ofNat_eq_natCast]); omega)) ?_)) ?_
        refine ⟨rfl, _, [(0, 0)], .sl 0 1 0 (ded f n).length n 0, _, rfl, ⟨rfl, rfl, wf_imp rfl rfl (AImp.slE h4.symm rfl) wf_nil, _, rfl, LImp.refl _⟩, _, rfl, rfl, fun q hq => ?_⟩
        have hq : q < x.2.1 := by omega
        have hb : Nat.ble (0 + x.2.1) q = false := by
          rw [Nat.zero_add, ← Bool.not_eq_true]
          intro h
          have := Nat.le_of_ble_eq_true h
          omega
        show (bif Nat.ble (0 + x.2.1) q && _ then _ else _) = _
        rw [hb]
        show fInts x.2.2 q = _
        unfold fInts
        rw [h5 q hq]
    · have g2 : f k ≠ f (k - 1) := by
        have g2 : (f (0 + k) == f (0 + (k - 1))) = false := g2
        rw [Nat.zero_add, Nat.zero_add] at g2
        simpa using g2
      refine VSt.go tb_ok false [] 200 rfl (by repeat (first | exact AllP.n | refine AllP.c (by first | assumption | rfl | omega | exact Nat.le_refl _ | (show 0 < _; omega) | (show 1 < _; omega) | (show 2 < _; omega) | (show 3 < _; omega) | (intro _ _; rfl) | (intro q hq; match q, hq with | 0, _ => rfl) | (unfold inR; (try simp only [Int.ofNat_eq_natCast]); omega)) ?_)) ?_
      exact ⟨k + 1, _, _, (by (refine Vw.sub' (subK (by repeat (first | exact sk_nil | refine sk_cons rfl ?_))))), ⟨by omega, g1, fun i h2 h3 => by
        by_cases e : i = k
        · subst e; exact g2
        · exact hd i h2 (by omega), rfl, rfl⟩, by show n - (k + 1) < n - k; omega⟩
  · have g1 : k = n := by have := of_decide_eq_false g1; simp only [Int.ofNat_eq_natCast] at this; omega
    subst g1
    have hw := whole hd
    refine VSt.go tb_ok false [] 200 rfl (by repeat (first | exact AllP.n | refine AllP.c (by first | assumption | rfl | omega | exact Nat.le_refl _ | (show 0 < _; omega) | (show 1 < _; omega) | (show 2 < _; omega) | (show 3 < _; omega) | (intro _ _; rfl) | (intro q hq; match q, hq with | 0, _ => rfl) | (unfold inR; (try simp only [Int.ofNat_eq_natCast]); omega)) ?_)) ?_
    exact ⟨rfl, _, [(0, 0)], .sl 0 1 0 (ded f k).length k 0, _, rfl, ⟨rfl, rfl, wf_imp rfl rfl (AImp.slE hw.1.symm rfl) wf_nil, _, rfl, LImp.refl _⟩, _, rfl, rfl, fun k hk => hw.2 k (by omega)⟩
end Go.Proofs.Ytncpeobcgmkkbaa
/- Walks: the roots of a study; the words of its roots. -/
set_option maxRecDepth 100000
namespace Go.Proofs.Ytncpeobcgmkkbaa
variable {r : Tr (List Value × TypeId)}
/-- Rising, each once. -/
def setL (n : Nat) (p : Nat → Int) : List Int := ded (fun k => (srt n p).getD k 0) n
theorem setL_mem {n : Nat} {p : Nat → Int} {x : Int} : x ∈ setL n p ↔ ∃ k, k < n ∧ p k = x := by
  unfold setL
  rw [ded_mem, ← srt_mem (n := n) (p := p)]
  refine ⟨fun ⟨i, h1, h2⟩ => ?_, fun h => ?_⟩
  · rw [← h2, getD_get (by rw [srt_len]; exact h1)]
    exact List.getElem_mem _
  · obtain ⟨i, h1, h2⟩ := List.mem_iff_getElem.1 h
    rw [srt_len] at h1
    exact ⟨i, h1, by rw [getD_get (by rw [srt_len]; exact h1)]; exact h2⟩
theorem setL_len (n : Nat) (p : Nat → Int) : (setL n p).length ≤ n := ded_len _ _
theorem setL_pos {n : Nat} {p : Nat → Int} (h : 0 < n) : 0 < (setL n p).length := ded_pos _ h
def leastN (s : Stem) : Nat := (searchS s).least.length
def leastAt (s : Stem) (q : Nat) : Nat → Int := (searchS s).least.getD q fun _ => 0
/-- The Ids of the parents. -/
def pedOf (s : Stem) (p : Nat → Int) : List Int := (List.range s.copies.length).map fun k => idOf s (p k)
theorem pedOf_len (s : Stem) (p : Nat → Int) : (pedOf s p).length = s.copies.length := by simp [pedOf]
theorem pedOf_at (s : Stem) (p : Nat → Int) {k : Nat} (hk : k < s.copies.length) : (pedOf s p).getD k 0 = idOf s (p k) := map_at (f := fun k => idOf s (p k)) hk
theorem ids_imp2 (s : Stem) (p : Nat → Int) : AImp (.p (idsP s p)) (.p (eInts false (pedOf s p))) := by
  show AImp _ (.p (.lst 3 false (pedOf s p).length _))
  rw [pedOf_len]
  exact AImp.lst fun k hk => by rw [pedOf_at s p hk]
theorem least_many {s : Stem} (hv : s.Valid) : leastN s ≤ 1000000 := by
  have h := stepS_many s s.copies.length 0 0 false startS
  have h2 := many_all (n := s.copies.length) hv.c
  have h3 : startS.least.length = 0 := rfl
  unfold leastN searchS
  omega
/-- Where the root of a pedigree is. -/
def rix (s : Stem) (q : Nat) : Int := idxI (pedOf s (leastAt s q)) fun y => 0 == y
def rootsL (s : Stem) : List Int := setL (leastN s) (rix s)
theorem roots_ok {s : Stem} (hv : s.Valid) (hm : 0 < leastN s) : VP (sE r) 41 [studyV s] (.p (eInts false (rootsL s))) := by
  have hmm := least_many hv
  have hn : s.copies.length ≤ 7 := hv.c
  refine VP.of (fn := Try.f41) tb_ok rfl (by kernel_rfl) rfl rfl rfl ?_
  refine VSt.go tb_ok false [] 200 rfl (by repeat (first | exact AllP.n | refine AllP.c (by first | assumption | rfl | omega | exact Nat.le_refl _ | (show 0 < _; omega) | (show 1 < _; omega) | (show 2 < _; omega) | (show 3 < _; omega) | (intro _ _; rfl) | (intro q hq; match q, hq with | 0, _ => rfl) | (unfold inR; (try simp only [Int.ofNat_eq_natCast]); omega)) ?_)) ?_
  refine VSt.viewC (Vw.adopt 0 1 (fInts (rix s)) 3 rfl) ?_
  refine VSt.rangeT tb_ok (leastN s) (by omega) [0, 9] (fun k => [(3, .acc true 0 1 k)]) (fun k => [(0, .acc k 1 (fInts (rix s)) 3)]) (fun _ => True) rfl rfl rfl (fun _ => rfl) rfl rfl (u0_cons rfl AImp.nilAcc u0_nil) (LImp.refl _) trivial (fun k hk _ => ?_) (fun _ => ?_)
  · refine VSt.go tb_ok false [] 200 rfl (by repeat (first | exact AllP.n | refine AllP.c (by first | assumption | rfl | omega | exact Nat.le_refl _ | (show 0 < _; omega) | (show 1 < _; omega) | (show 2 < _; omega) | (show 3 < _; omega) | (intro _ _; rfl) | (intro q hq; match q, hq with | 0, _ => rfl) | (unfold inR; (try simp only [Int.ofNat_eq_natCast]); omega)) ?_)) ?_
    first | refine VSt.pc rfl rfl rfl rfl rfl rfl rfl rfl ((VP.imp (Index_ok (b := false) (l := pedOf s (leastAt s k)) 0 (by rw [pedOf_len]; omega)) ⟨ids_imp2 s _, AImp.refl _, trivial⟩)) ?_ | refine VSt.pcD rfl rfl rfl rfl rfl rfl rfl rfl ((VP.imp (Index_ok (b := false) (l := pedOf s (leastAt s k)) 0 (by rw [pedOf_len]; omega)) ⟨ids_imp2 s _, AImp.refl _, trivial⟩)) ?_
    refine VSt.go tb_ok false [] 200 rfl (by repeat (first | exact AllP.n | refine AllP.c (by first | assumption | rfl | omega | exact Nat.le_refl _ | (show 0 < _; omega) | (show 1 < _; omega) | (show 2 < _; omega) | (show 3 < _; omega) | (intro _ _; rfl) | (intro q hq; match q, hq with | 0, _ => rfl) | (unfold inR; (try simp only [Int.ofNat_eq_natCast]); omega)) ?_)) ?_
    refine ⟨?_, trivial⟩
    refine Wk.vw (ps := [(0, 1)]) ⟨rfl, rfl, (by repeat (first | exact wf_nil | refine wf_back rfl rfl rfl ?_)), _, rfl, (⟨rfl, BImp.acc rfl (fun q hq => app_one (f := fInts (rix s)) rfl hq), trivial⟩)⟩
  · refine VSt.go tb_ok false [] 200 rfl (by repeat (first | exact AllP.n | refine AllP.c (by first | assumption | rfl | omega | exact Nat.le_refl _ | (show 0 < _; omega) | (show 1 < _; omega) | (show 2 < _; omega) | (show 3 < _; omega) | (intro _ _; rfl) | (intro q hq; match q, hq with | 0, _ => rfl) | (unfold inR; (try simp only [Int.ofNat_eq_natCast]); omega)) ?_)) ?_
    refine VSt.cc [(0, 0)] rfl rfl rfl rfl rfl rfl rfl rfl rfl rfl rfl (VC.sortA rfl rfl (by omega)) ?_
    rintro a L' ⟨rfl, rfl⟩
    refine VSt.go tb_ok false [] 200 rfl (by repeat (first | exact AllP.n | refine AllP.c (by first | assumption | rfl | omega | exact Nat.le_refl _ | (show 0 < _; omega) | (show 1 < _; omega) | (show 2 < _; omega) | (show 3 < _; omega) | (intro _ _; rfl) | (intro q hq; match q, hq with | 0, _ => rfl) | (unfold inR; (try simp only [Int.ofNat_eq_natCast]); omega)) ?_)) ?_
    refine VSt.viewO (Wk.vw (ps := [(0, 0)]) (F0 := [(23, .sl 0 1 0 (leastN s) (leastN s) 0)]) (L0 := [(0, .arr (leastN s) 1 (fInts fun k => (srt (leastN s) (rix s)).getD k 0) 3)]) ⟨rfl, rfl, wf_imp rfl rfl (AImp.accSl hm rfl rfl) wf_nil, _, rfl, ⟨rfl, BImp.accArr hm rfl (fun _ _ => rfl), trivial⟩⟩) ?_
    refine VSt.cc [(0, 0)] rfl rfl rfl rfl rfl rfl rfl rfl rfl rfl rfl (Compact_ok hm hmm) ?_
    rintro a L' ⟨G, rfl, rfl, hG⟩
    first | refine VSt.viewC (Vw.kp [24] [(0, 0)] rfl) ?_ | refine VSt.viewO (Vw.kp [24] [(0, 0)] rfl) ?_ | refine VSt.viewD (Vw.kp [24] [(0, 0)] rfl) ?_
    refine VSt.viewO (Vw.freeze 0 rfl rfl ⟨by rw [Nat.zero_add]; exact ded_len _ _, ded_len _ _, rfl⟩) ?_
    refine VSt.go tb_ok false [] 200 rfl (by repeat (first | exact AllP.n | refine AllP.c (by first | assumption | rfl | omega | exact Nat.le_refl _ | (show 0 < _; omega) | (show 1 < _; omega) | (show 2 < _; omega) | (show 3 < _; omega) | (intro _ _; rfl) | (intro q hq; match q, hq with | 0, _ => rfl) | (unfold inR; (try simp only [Int.ofNat_eq_natCast]); omega)) ?_)) ?_
    refine ⟨rfl, _, rfl, rfl, ?_⟩
    show AImp (.p (.lst 3 false (rootsL s).length fun k => G (0 + k))) _
    exact AImp.lst fun k hk => by rw [Nat.zero_add]; exact hG k hk
/-- A tree has a root. -/
theorem tree_root {p : Nat → Int} : ∀ {n : Nat}, rootsN p n = 1 → ∃ i, i < n ∧ p i < 0 ∧ ∀ k, k < n → k ≠ i → 0 ≤ p k
  | 0, h => absurd (show 0 = 1 from h) (by decide)
  | n + 1, h => by
    rw [rootsN_step] at h
    by_cases h0 : p n < 0
    · rw [if_pos h0] at h
      exact ⟨n, by omega, h0, fun k hk hne => rootsN_zero (n := n) (by omega) k (by omega)⟩
    · rw [if_neg h0] at h
      obtain ⟨i, h1, h2, h3⟩ := tree_root (n := n) (by omega)
      exact ⟨i, by omega, h2, fun k hk hne => by
        by_cases e : k = n
        · subst e; omega
        · exact h3 k (by omega) hne⟩
theorem idOf_zero {s : Stem} (hv : s.Valid) {x : Int} (hx : x < s.copies.length) : idOf s x = 0 ↔ x < 0 := by
  unfold idOf
  by_cases h : x < 0
  · rw [decide_eq_true h]; exact ⟨fun _ => h, fun _ => rfl⟩
  · rw [decide_eq_false h]
    have := hv.id_pos (k := x.toNat) (by omega)
    exact ⟨fun e => by have e : idAt s x.toNat = 0 := e; omega, fun e => absurd e h⟩
theorem idx_root {s : Stem} (hv : s.Valid) {p : Nat → Int} (ht : TreeS s p) {i : Nat} (hi : i < s.copies.length) (h : p i < 0) (ho : ∀ k, k < s.copies.length → k ≠ i → 0 ≤ p k) : idxI (pedOf s p) (fun y => 0 == y) = Int.ofNat i := by
  refine idxI_hit (by rw [pedOf_len]; exact hi) ?_ fun k hk => ?_
  · rw [pedOf_at s p hi, (idOf_zero hv (ht.part.lt i hi)).2 h]; rfl
  · rw [pedOf_at s p (by omega)]
    have h1 := ho k (by omega) (by omega)
    refine beq_false_of_ne fun e => ?_
    have := (idOf_zero hv (ht.part.lt k (by omega))).1 e.symm
    omega
theorem least_tree {s : Stem} (hv : s.Valid) {q : Nat} (hq : q < leastN s) : TreeS s (leastAt s q) := by
  refine ((search_does hv).1.all _ ?_).1
  unfold leastAt
  rw [List.getD_eq_getElem?_getD, List.getElem?_eq_getElem hq]
  exact List.getElem_mem hq
/-- The roots are roots of least trees. -/
theorem roots_mem {s : Stem} (hv : s.Valid) {x : Int} : x ∈ rootsL s ↔ ∃ q i, q < leastN s ∧ i < s.copies.length ∧ x = Int.ofNat i ∧ leastAt s q i < 0 := by
  unfold rootsL
  rw [setL_mem]
  refine ⟨fun ⟨q, h1, h2⟩ => ?_, fun ⟨q, i, h1, h2, h3, h4⟩ => ⟨q, h1, ?_⟩⟩
  · obtain ⟨i, h3, h4, h5⟩ := tree_root (least_tree hv h1).root
    exact ⟨q, i, h1, h3, by rw [← h2]; exact idx_root hv (least_tree hv h1) h3 h4 h5, h4⟩
  · obtain ⟨j, h5, h6, h7⟩ := tree_root (least_tree hv h1).root
    have : j = i := by
      by_cases e : i = j
      · exact e.symm
      · have := h7 i h2 e; omega
    subst this
    rw [h3]; exact idx_root hv (least_tree hv h1) h5 h6 h7
theorem root_at {s : Stem} (hv : s.Valid) {k : Nat} (hk : k < (rootsL s).length) : ((rootsL s).getD k 0).toNat < s.copies.length ∧ (rootsL s).getD k 0 = Int.ofNat ((rootsL s).getD k 0).toNat := by
  have h : (rootsL s).getD k 0 ∈ rootsL s := by rw [getD_get hk]; exact List.getElem_mem hk
  obtain ⟨q, i, _, h2, h3, _⟩ := (roots_mem hv).1 h
  rw [h3]
  exact ⟨h2, rfl⟩
/-- The words that the roots have at a place. -/
def wordsL (s : Stem) (x : Nat) : List Int := setL (rootsL s).length fun k => wd s ((rootsL s).getD k 0).toNat x
theorem words_ok {s : Stem} (hv : s.Valid) (hm : 0 < leastN s) {x : Nat} (hx : x < (s.copies.getD 0 default).words.length) : VP (sE r) 45 [studyV s, nv x] (.p (eInts false (wordsL s x))) := by
  have hmm := least_many hv
  have hn : s.copies.length ≤ 7 := hv.c
  have hrp : 0 < (rootsL s).length := setL_pos hm
  have hrl : (rootsL s).length ≤ 1000000 := Nat.le_trans (setL_len _ _) hmm
  refine VP.of (fn := Try.f45) tb_ok rfl (by kernel_rfl) rfl rfl rfl ?_
  refine VSt.go tb_ok false [] 200 rfl (by repeat (first | exact AllP.n | refine AllP.c (by first | assumption | rfl | omega | exact Nat.le_refl _ | (show 0 < _; omega) | (show 1 < _; omega) | (show 2 < _; omega) | (show 3 < _; omega) | (intro _ _; rfl) | (intro q hq; match q, hq with | 0, _ => rfl) | (unfold inR; (try simp only [Int.ofNat_eq_natCast]); omega)) ?_)) ?_
  first | refine VSt.pc rfl rfl rfl rfl rfl rfl rfl rfl ((roots_ok hv hm)) ?_ | refine VSt.pcD rfl rfl rfl rfl rfl rfl rfl rfl ((roots_ok hv hm)) ?_
  refine VSt.go tb_ok false [] 200 rfl (by repeat (first | exact AllP.n | refine AllP.c (by first | assumption | rfl | omega | exact Nat.le_refl _ | (show 0 < _; omega) | (show 1 < _; omega) | (show 2 < _; omega) | (show 3 < _; omega) | (intro _ _; rfl) | (intro q hq; match q, hq with | 0, _ => rfl) | (unfold inR; (try simp only [Int.ofNat_eq_natCast]); omega)) ?_)) ?_
  refine VSt.viewC (Vw.adopt 0 1 (fInts fun k => wd s ((rootsL s).getD k 0).toNat x) 3 rfl) ?_
  refine VSt.rangeT tb_ok (rootsL s).length (by omega) [0, 1, 9] (fun k => [(5, .acc true 0 1 k)]) (fun k => [(0, .acc k 1 (fInts fun k => wd s ((rootsL s).getD k 0).toNat x) 3)]) (fun _ => True) rfl rfl rfl (fun _ => rfl) rfl rfl (u0_cons rfl AImp.nilAcc u0_nil) (LImp.refl _) trivial (fun k hk _ => ?_) (fun _ => ?_)
  · have hr := root_at hv hk
    have hw := hv.words hr.1
    refine VSt.go tb_ok false [22] 200 rfl (by repeat (first | exact AllP.n | refine AllP.c (by first | assumption | rfl | omega | exact Nat.le_refl _ | (show 0 < _; omega) | (show 1 < _; omega) | (show 2 < _; omega) | (show 3 < _; omega) | (intro _ _; rfl) | (intro q hq; match q, hq with | 0, _ => rfl) | (unfold inR; (try simp only [Int.ofNat_eq_natCast]); omega)) ?_)) ?_
    first | refine VSt.putO 21 (nv ((rootsL s).getD k 0).toNat) rfl (iv_nv hr.2) ?_ | refine VSt.putD 21 (nv ((rootsL s).getD k 0).toNat) rfl (iv_nv hr.2) ?_ | refine VSt.putC 21 (nv ((rootsL s).getD k 0).toNat) rfl (iv_nv hr.2) ?_
    refine VSt.go tb_ok false [] 200 rfl (by repeat (first | exact AllP.n | refine AllP.c (by first | assumption | rfl | omega | exact Nat.le_refl _ | (show 0 < _; omega) | (show 1 < _; omega) | (show 2 < _; omega) | (show 3 < _; omega) | (intro _ _; rfl) | (intro q hq; match q, hq with | 0, _ => rfl) | (unfold inR; (try simp only [Int.ofNat_eq_natCast]); omega)) ?_)) ?_
    refine ⟨?_, trivial⟩
    refine Wk.vw (ps := [(0, 1)]) ⟨rfl, rfl, (by repeat (first | exact wf_nil | refine wf_back rfl rfl rfl ?_)), _, rfl, (⟨rfl, BImp.acc rfl (fun q hq => app_one (f := fInts fun k => wd s ((rootsL s).getD k 0).toNat x) rfl hq), trivial⟩)⟩
  · refine VSt.go tb_ok false [] 200 rfl (by repeat (first | exact AllP.n | refine AllP.c (by first | assumption | rfl | omega | exact Nat.le_refl _ | (show 0 < _; omega) | (show 1 < _; omega) | (show 2 < _; omega) | (show 3 < _; omega) | (intro _ _; rfl) | (intro q hq; match q, hq with | 0, _ => rfl) | (unfold inR; (try simp only [Int.ofNat_eq_natCast]); omega)) ?_)) ?_
    refine VSt.cc [(0, 0)] rfl rfl rfl rfl rfl rfl rfl rfl rfl rfl rfl (VC.sortA rfl rfl (by omega)) ?_
    rintro a L' ⟨rfl, rfl⟩
    refine VSt.go tb_ok false [] 200 rfl (by repeat (first | exact AllP.n | refine AllP.c (by first | assumption | rfl | omega | exact Nat.le_refl _ | (show 0 < _; omega) | (show 1 < _; omega) | (show 2 < _; omega) | (show 3 < _; omega) | (intro _ _; rfl) | (intro q hq; match q, hq with | 0, _ => rfl) | (unfold inR; (try simp only [Int.ofNat_eq_natCast]); omega)) ?_)) ?_
    refine VSt.viewO (Wk.vw (ps := [(0, 0)]) (F0 := [(33, .sl 0 1 0 (rootsL s).length (rootsL s).length 0)]) (L0 := [(0, .arr (rootsL s).length 1 (fInts fun k => (srt (rootsL s).length (fun k => wd s ((rootsL s).getD k 0).toNat x)).getD k 0) 3)]) ⟨rfl, rfl, wf_imp rfl rfl (AImp.accSl hrp rfl rfl) wf_nil, _, rfl, ⟨rfl, BImp.accArr hrp rfl (fun _ _ => rfl), trivial⟩⟩) ?_
    refine VSt.cc [(0, 0)] rfl rfl rfl rfl rfl rfl rfl rfl rfl rfl rfl (Compact_ok hrp hrl) ?_
    rintro a L' ⟨G, rfl, rfl, hG⟩
    first | refine VSt.viewC (Vw.kp [34] [(0, 0)] rfl) ?_ | refine VSt.viewO (Vw.kp [34] [(0, 0)] rfl) ?_ | refine VSt.viewD (Vw.kp [34] [(0, 0)] rfl) ?_
    refine VSt.viewO (Vw.freeze 0 rfl rfl ⟨by rw [Nat.zero_add]; exact ded_len _ _, ded_len _ _, rfl⟩) ?_
    refine VSt.go tb_ok false [] 200 rfl (by repeat (first | exact AllP.n | refine AllP.c (by first | assumption | rfl | omega | exact Nat.le_refl _ | (show 0 < _; omega) | (show 1 < _; omega) | (show 2 < _; omega) | (show 3 < _; omega) | (intro _ _; rfl) | (intro q hq; match q, hq with | 0, _ => rfl) | (unfold inR; (try simp only [Int.ofNat_eq_natCast]); omega)) ?_)) ?_
    refine ⟨rfl, _, rfl, rfl, ?_⟩
    show AImp (.p (.lst 3 false (wordsL s x).length fun k => G (0 + k))) _
    exact AImp.lst fun k hk => by rw [Nat.zero_add]; exact hG k hk
/-- How many words a copy has. -/
def placesN (s : Stem) : Nat := if s.copies.length = 0 then 0 else (s.copies.getD 0 default).words.length
theorem places_ok (s : Stem) : VP (sE r) 44 [.agg ((eStem s).map .p)] (nv (placesN s)) := by
  refine VP.of (fn := Try.f44) tb_ok rfl (by kernel_rfl) rfl rfl rfl ?_
  refine VSt.go tb_ok false [] 200 rfl (by repeat (first | exact AllP.n | refine AllP.c (by first | assumption | rfl | omega | exact Nat.le_refl _ | (show 0 < _; omega) | (show 1 < _; omega) | (show 2 < _; omega) | (show 3 < _; omega) | (intro _ _; rfl) | (intro q hq; match q, hq with | 0, _ => rfl) | (unfold inR; (try simp only [Int.ofNat_eq_natCast]); omega)) ?_)) ?_
  refine VSt.cond rfl (fun h => ?_) (fun h => ?_)
  · have h : (Int.ofNat s.copies.length == 0) = true := h
    have h : s.copies.length = 0 := by
      have h2 : Int.ofNat s.copies.length = 0 := by simpa using h
      exact Int.ofNat_inj.1 h2
    refine VSt.go tb_ok false [] 200 rfl (by repeat (first | exact AllP.n | refine AllP.c (by first | assumption | rfl | omega | exact Nat.le_refl _ | (show 0 < _; omega) | (show 1 < _; omega) | (show 2 < _; omega) | (show 3 < _; omega) | (intro _ _; rfl) | (intro q hq; match q, hq with | 0, _ => rfl) | (unfold inR; (try simp only [Int.ofNat_eq_natCast]); omega)) ?_)) ?_
    refine EndsP.mk rfl rfl rfl ?_
    unfold placesN
    rw [if_pos h]; rfl
  · have h : (Int.ofNat s.copies.length == 0) = false := h
    have h : 0 < s.copies.length := by
      have h2 : ¬ Int.ofNat s.copies.length = 0 := by simpa using h
      simp only [Int.ofNat_eq_natCast] at h2; omega
    refine VSt.go tb_ok false [] 200 rfl (by repeat (first | exact AllP.n | refine AllP.c (by first | assumption | rfl | omega | exact Nat.le_refl _ | (show 0 < _; omega) | (show 1 < _; omega) | (show 2 < _; omega) | (show 3 < _; omega) | (intro _ _; rfl) | (intro q hq; match q, hq with | 0, _ => rfl) | (unfold inR; (try simp only [Int.ofNat_eq_natCast]); omega)) ?_)) ?_
    refine EndsP.mk rfl rfl rfl ?_
    unfold placesN
    rw [if_neg (by omega)]; rfl
end Go.Proofs.Ytncpeobcgmkkbaa
/- Walks: what is asked of a study. -/
set_option maxRecDepth 100000
namespace Go.Proofs.Ytncpeobcgmkkbaa
variable {r : Tr (List Value × TypeId)}
/-- The word that all roots have at a place; -1 if they differ. -/
def textF (s : Stem) (x : Nat) : Int := bif Int.ofNat (wordsL s x).length == 1 then (wordsL s x).getD 0 0 else -1
def textL (s : Stem) : List Int := (List.range (placesN s)).map (textF s)
theorem textL_len (s : Stem) : (textL s).length = placesN s := by simp [textL]
theorem textL_at (s : Stem) {x : Nat} (h : x < placesN s) : (textL s).getD x 0 = textF s x := map_at h
theorem text_ok {s : Stem} (hv : s.Valid) (hm : 0 < leastN s) (hc : 0 < s.copies.length) : VP (sE r) 40 [studyV s] (.p (eInts false (textL s))) := by
  have hpn : placesN s = (s.copies.getD 0 default).words.length := if_neg (by omega)
  have hw := (ckCopy_of (hv.copy hc)).2.1
  refine VP.of (fn := Try.f40) tb_ok rfl (by kernel_rfl) rfl rfl rfl ?_
  refine VSt.go tb_ok false [] 200 rfl (by repeat (first | exact AllP.n | refine AllP.c (by first | assumption | rfl | omega | exact Nat.le_refl _ | (show 0 < _; omega) | (show 1 < _; omega) | (show 2 < _; omega) | (show 3 < _; omega) | (intro _ _; rfl) | (intro q hq; match q, hq with | 0, _ => rfl) | (unfold inR; (try simp only [Int.ofNat_eq_natCast]); omega)) ?_)) ?_
  first | refine VSt.pc rfl rfl rfl rfl rfl rfl rfl rfl ((places_ok s)) ?_ | refine VSt.pcD rfl rfl rfl rfl rfl rfl rfl rfl ((places_ok s)) ?_
  refine VSt.go tb_ok false [] 200 rfl (by repeat (first | exact AllP.n | refine AllP.c (by first | assumption | rfl | omega | exact Nat.le_refl _ | (show 0 < _; omega) | (show 1 < _; omega) | (show 2 < _; omega) | (show 3 < _; omega) | (intro _ _; rfl) | (intro q hq; match q, hq with | 0, _ => rfl) | (unfold inR; (try simp only [Int.ofNat_eq_natCast]); omega)) ?_)) ?_
  refine VSt.viewC (Vw.adopt 0 1 (fInts (textF s)) 3 rfl) ?_
  refine VSt.rangeT tb_ok (placesN s) (by omega) [0] (fun k => [(3, .acc true 0 1 k)]) (fun k => [(0, .acc k 1 (fInts (textF s)) 3)]) (fun _ => True) rfl rfl rfl (fun _ => rfl) rfl rfl (u0_cons rfl AImp.nilAcc u0_nil) (LImp.refl _) trivial (fun k hk _ => ?_) (fun _ => ?_)
  · refine VSt.go tb_ok false [] 200 rfl (by repeat (first | exact AllP.n | refine AllP.c (by first | assumption | rfl | omega | exact Nat.le_refl _ | (show 0 < _; omega) | (show 1 < _; omega) | (show 2 < _; omega) | (show 3 < _; omega) | (intro _ _; rfl) | (intro q hq; match q, hq with | 0, _ => rfl) | (unfold inR; (try simp only [Int.ofNat_eq_natCast]); omega)) ?_)) ?_
    first | refine VSt.pc rfl rfl rfl rfl rfl rfl rfl rfl ((words_ok hv hm (x := k) (by omega))) ?_ | refine VSt.pcD rfl rfl rfl rfl rfl rfl rfl rfl ((words_ok hv hm (x := k) (by omega))) ?_
    refine VSt.go tb_ok false [] 200 rfl (by repeat (first | exact AllP.n | refine AllP.c (by first | assumption | rfl | omega | exact Nat.le_refl _ | (show 0 < _; omega) | (show 1 < _; omega) | (show 2 < _; omega) | (show 3 < _; omega) | (intro _ _; rfl) | (intro q hq; match q, hq with | 0, _ => rfl) | (unfold inR; (try simp only [Int.ofNat_eq_natCast]); omega)) ?_)) ?_
    refine VSt.cond rfl (fun h => ?_) (fun h => ?_)
    · have h : (Int.ofNat (wordsL s k).length == 1) = true := h
      have h1 : (wordsL s k).length = 1 := by
        have h2 : Int.ofNat (wordsL s k).length = 1 := by simpa using h
        exact Int.ofNat_inj.1 h2
      refine VSt.go tb_ok false [] 200 rfl (by repeat (first | exact AllP.n | refine AllP.c (by first | assumption | rfl | omega | exact Nat.le_refl _ | (show 0 < _; omega) | (show 1 < _; omega) | (show 2 < _; omega) | (show 3 < _; omega) | (intro _ _; rfl) | (intro q hq; match q, hq with | 0, _ => rfl) | (unfold inR; (try simp only [Int.ofNat_eq_natCast]); omega)) ?_)) ?_
      refine ⟨?_, trivial⟩
      refine Wk.vw (ps := [(0, 1)]) ⟨rfl, rfl, (by repeat (first | exact wf_nil | refine wf_back rfl rfl rfl ?_)), _, rfl, (⟨rfl, BImp.acc rfl (fun q hq => app_one (f := fInts (textF s)) (by show [PV.int .i64 ((wordsL s k).getD 0 0)] = [PV.int .i64 (textF s k)]; unfold textF; rw [h]; rfl) hq), trivial⟩)⟩
    · have h : (Int.ofNat (wordsL s k).length == 1) = false := h
      refine VSt.go tb_ok false [] 200 rfl (by repeat (first | exact AllP.n | refine AllP.c (by first | assumption | rfl | omega | exact Nat.le_refl _ | (show 0 < _; omega) | (show 1 < _; omega) | (show 2 < _; omega) | (show 3 < _; omega) | (intro _ _; rfl) | (intro q hq; match q, hq with | 0, _ => rfl) | (unfold inR; (try simp only [Int.ofNat_eq_natCast]); omega)) ?_)) ?_
      refine ⟨?_, trivial⟩
      refine Wk.vw (ps := [(0, 1)]) ⟨rfl, rfl, (by repeat (first | exact wf_nil | refine wf_back rfl rfl rfl ?_)), _, rfl, (⟨rfl, BImp.acc rfl (fun q hq => app_one (f := fInts (textF s)) (by show [PV.int .i64 (-1)] = [PV.int .i64 (textF s k)]; unfold textF; rw [h]; rfl) hq), trivial⟩)⟩
  · first | refine VSt.viewC (Vw.kp [3] [(0, 0)] rfl) ?_ | refine VSt.viewO (Vw.kp [3] [(0, 0)] rfl) ?_ | refine VSt.viewD (Vw.kp [3] [(0, 0)] rfl) ?_
    refine VSt.viewC (Vw.freezeA 0 rfl rfl ⟨Nat.le_refl _, rfl⟩) ?_
    refine VSt.go tb_ok false [] 200 rfl (by repeat (first | exact AllP.n | refine AllP.c (by first | assumption | rfl | omega | exact Nat.le_refl _ | (show 0 < _; omega) | (show 1 < _; omega) | (show 2 < _; omega) | (show 3 < _; omega) | (intro _ _; rfl) | (intro q hq; match q, hq with | 0, _ => rfl) | (unfold inR; (try simp only [Int.ofNat_eq_natCast]); omega)) ?_)) ?_
    refine ⟨rfl, _, rfl, rfl, ?_⟩
    show AImp (.p (.lst 3 (true && Nat.beq (placesN s) 0) (placesN s) _)) (.p (.lst 3 false (textL s).length _))
    rw [textL_len, beq_ne (show placesN s ≠ 0 by omega)]
    exact AImp.lst fun k hk => by rw [textL_at s hk]; rfl
/-- What is asked of a stem that can be studied. -/
theorem Fewest_ok {s : Stem} (hs : s.Ok) : VP (sE r) 13 [.agg ((eStem s).map .p)] (.tup [iv (if studE s = 0 then (searchS s).cost else 0), iv (studE s)]) := by
  have hst := studied_ok (r := r) hs
  refine VP.of (fn := Try.f13) tb_ok rfl (by kernel_rfl) rfl rfl rfl ?_
  refine VSt.go tb_ok false [] 200 rfl (by repeat (first | exact AllP.n | refine AllP.c (by first | assumption | rfl | omega | exact Nat.le_refl _ | (show 0 < _; omega) | (show 1 < _; omega) | (show 2 < _; omega) | (show 3 < _; omega) | (intro _ _; rfl) | (intro q hq; match q, hq with | 0, _ => rfl) | (unfold inR; (try simp only [Int.ofNat_eq_natCast]); omega)) ?_)) ?_
  by_cases h : studE s = 0
  · rw [if_pos h, h] at hst
    rw [if_pos h, h]
    first | refine VSt.pc rfl rfl rfl rfl rfl rfl rfl rfl (hst) ?_ | refine VSt.pcD rfl rfl rfl rfl rfl rfl rfl rfl (hst) ?_
    refine VSt.go tb_ok false [] 200 rfl (by repeat (first | exact AllP.n | refine AllP.c (by first | assumption | rfl | omega | exact Nat.le_refl _ | (show 0 < _; omega) | (show 1 < _; omega) | (show 2 < _; omega) | (show 3 < _; omega) | (intro _ _; rfl) | (intro q hq; match q, hq with | 0, _ => rfl) | (unfold inR; (try simp only [Int.ofNat_eq_natCast]); omega)) ?_)) ?_
    refine VSt.cond rfl (fun h1 => absurd h1 (by decide)) (fun _ => ?_)
    refine VSt.go tb_ok false [] 200 rfl (by repeat (first | exact AllP.n | refine AllP.c (by first | assumption | rfl | omega | exact Nat.le_refl _ | (show 0 < _; omega) | (show 1 < _; omega) | (show 2 < _; omega) | (show 3 < _; omega) | (intro _ _; rfl) | (intro q hq; match q, hq with | 0, _ => rfl) | (unfold inR; (try simp only [Int.ofNat_eq_natCast]); omega)) ?_)) ?_
    exact EndsP.mk rfl rfl rfl rfl
  · rw [if_neg h] at hst
    rw [if_neg h]
    first | refine VSt.pc rfl rfl rfl rfl rfl rfl rfl rfl (hst) ?_ | refine VSt.pcD rfl rfl rfl rfl rfl rfl rfl rfl (hst) ?_
    refine VSt.go tb_ok false [] 200 rfl (by repeat (first | exact AllP.n | refine AllP.c (by first | assumption | rfl | omega | exact Nat.le_refl _ | (show 0 < _; omega) | (show 1 < _; omega) | (show 2 < _; omega) | (show 3 < _; omega) | (intro _ _; rfl) | (intro q hq; match q, hq with | 0, _ => rfl) | (unfold inR; (try simp only [Int.ofNat_eq_natCast]); omega)) ?_)) ?_
    refine VSt.cond rfl (fun h1 => ?_) (fun h1 => ?_)
    · refine VSt.go tb_ok false [] 200 rfl (by repeat (first | exact AllP.n | refine AllP.c (by first | assumption | rfl | omega | exact Nat.le_refl _ | (show 0 < _; omega) | (show 1 < _; omega) | (show 2 < _; omega) | (show 3 < _; omega) | (intro _ _; rfl) | (intro q hq; match q, hq with | 0, _ => rfl) | (unfold inR; (try simp only [Int.ofNat_eq_natCast]); omega)) ?_)) ?_
      exact EndsP.mk rfl rfl rfl rfl
    · have h1 : (!(studE s == 0)) = false := h1
      exact absurd (by simpa using h1) h
theorem studE_zero {s : Stem} (h : studE s = 0) : ckStem s = 0 ∧ 0 < leastN s := by
  have hck : ckStem s = 0 := by
    unfold studE at h
    split at h
    · assumption
    · exact h
  refine ⟨hck, ?_⟩
  unfold studE at h
  rw [if_pos hck] at h
  unfold leastN
  rcases Nat.eq_zero_or_pos (searchS s).least.length with e | e
  · rw [if_pos (List.length_eq_zero_iff.1 e)] at h; exact absurd h (by decide)
  · exact e
theorem least_some {s : Stem} (hv : s.Valid) (hm : 0 < leastN s) : 0 < s.copies.length := by
  obtain ⟨i, h, _⟩ := tree_root (least_tree hv hm).root
  omega
def nilI : PV := .lst 0 true 0 fun _ => []
theorem Agreed_ok {s : Stem} (hs : s.Ok) : VP (sE r) 14 [.agg ((eStem s).map .p)] (.tup [.p (if studE s = 0 then eInts false (textL s) else nilI), iv (studE s)]) := by
  have hst := studied_ok (r := r) hs
  have ho : AV.only (fun _ => false) (.tup [.p (if studE s = 0 then eInts false (textL s) else nilI), iv (studE s)]) = true := by
    by_cases h : studE s = 0
    · rw [if_pos h]; rfl
    · rw [if_neg h]; rfl
  refine VP.of (fn := Try.f14) tb_ok rfl (by kernel_rfl) rfl rfl ho ?_
  refine VSt.go tb_ok false [] 200 rfl (by repeat (first | exact AllP.n | refine AllP.c (by first | assumption | rfl | omega | exact Nat.le_refl _ | (show 0 < _; omega) | (show 1 < _; omega) | (show 2 < _; omega) | (show 3 < _; omega) | (intro _ _; rfl) | (intro q hq; match q, hq with | 0, _ => rfl) | (unfold inR; (try simp only [Int.ofNat_eq_natCast]); omega)) ?_)) ?_
  by_cases h : studE s = 0
  · rw [if_pos h, h] at hst
    obtain ⟨hck, hm⟩ := studE_zero h
    have hv := valid_of hck
    rw [if_pos h, h]
    first | refine VSt.pc rfl rfl rfl rfl rfl rfl rfl rfl (hst) ?_ | refine VSt.pcD rfl rfl rfl rfl rfl rfl rfl rfl (hst) ?_
    refine VSt.go tb_ok false [] 200 rfl (by repeat (first | exact AllP.n | refine AllP.c (by first | assumption | rfl | omega | exact Nat.le_refl _ | (show 0 < _; omega) | (show 1 < _; omega) | (show 2 < _; omega) | (show 3 < _; omega) | (intro _ _; rfl) | (intro q hq; match q, hq with | 0, _ => rfl) | (unfold inR; (try simp only [Int.ofNat_eq_natCast]); omega)) ?_)) ?_
    refine VSt.cond rfl (fun h1 => absurd h1 (by decide)) (fun _ => ?_)
    refine VSt.go tb_ok false [] 200 rfl (by repeat (first | exact AllP.n | refine AllP.c (by first | assumption | rfl | omega | exact Nat.le_refl _ | (show 0 < _; omega) | (show 1 < _; omega) | (show 2 < _; omega) | (show 3 < _; omega) | (intro _ _; rfl) | (intro q hq; match q, hq with | 0, _ => rfl) | (unfold inR; (try simp only [Int.ofNat_eq_natCast]); omega)) ?_)) ?_
    first | refine VSt.pc rfl rfl rfl rfl rfl rfl rfl rfl ((text_ok hv hm (least_some hv hm))) ?_ | refine VSt.pcD rfl rfl rfl rfl rfl rfl rfl rfl ((text_ok hv hm (least_some hv hm))) ?_
    refine VSt.go tb_ok false [] 200 rfl (by repeat (first | exact AllP.n | refine AllP.c (by first | assumption | rfl | omega | exact Nat.le_refl _ | (show 0 < _; omega) | (show 1 < _; omega) | (show 2 < _; omega) | (show 3 < _; omega) | (intro _ _; rfl) | (intro q hq; match q, hq with | 0, _ => rfl) | (unfold inR; (try simp only [Int.ofNat_eq_natCast]); omega)) ?_)) ?_
    exact EndsP.mk rfl rfl rfl rfl
  · rw [if_neg h] at hst
    rw [if_neg h]
    first | refine VSt.pc rfl rfl rfl rfl rfl rfl rfl rfl (hst) ?_ | refine VSt.pcD rfl rfl rfl rfl rfl rfl rfl rfl (hst) ?_
    refine VSt.go tb_ok false [] 200 rfl (by repeat (first | exact AllP.n | refine AllP.c (by first | assumption | rfl | omega | exact Nat.le_refl _ | (show 0 < _; omega) | (show 1 < _; omega) | (show 2 < _; omega) | (show 3 < _; omega) | (intro _ _; rfl) | (intro q hq; match q, hq with | 0, _ => rfl) | (unfold inR; (try simp only [Int.ofNat_eq_natCast]); omega)) ?_)) ?_
    refine VSt.cond rfl (fun h1 => ?_) (fun h1 => ?_)
    · refine VSt.go tb_ok false [] 200 rfl (by repeat (first | exact AllP.n | refine AllP.c (by first | assumption | rfl | omega | exact Nat.le_refl _ | (show 0 < _; omega) | (show 1 < _; omega) | (show 2 < _; omega) | (show 3 < _; omega) | (intro _ _; rfl) | (intro q hq; match q, hq with | 0, _ => rfl) | (unfold inR; (try simp only [Int.ofNat_eq_natCast]); omega)) ?_)) ?_
      exact ⟨rfl, _, rfl, rfl, AImp.tup ⟨AImp.nil, AImp.refl _, trivial⟩⟩
    · have h1 : (!(studE s == 0)) = false := h1
      exact absurd (by simpa using h1) h
end Go.Proofs.Ytncpeobcgmkkbaa
/- Walks: roots, words, shown pedigrees, parents. -/
set_option maxRecDepth 100000
namespace Go.Proofs.Ytncpeobcgmkkbaa
variable {r : Tr (List Value × TypeId)}
def rootIds (s : Stem) : List Int := (rootsL s).map fun x => idAt s x.toNat
theorem rootIds_len (s : Stem) : (rootIds s).length = (rootsL s).length := by simp [rootIds]
theorem rootIds_at (s : Stem) {k : Nat} (hk : k < (rootsL s).length) : (rootIds s).getD k 0 = idAt s ((rootsL s).getD k 0).toNat := by
  unfold rootIds
  rw [List.getD_eq_getElem?_getD, List.getElem?_map, List.getElem?_eq_getElem hk, getD_get hk]; rfl
theorem Roots_ok {s : Stem} (hs : s.Ok) : VP (sE r) 15 [.agg ((eStem s).map .p)] (.tup [.p (if studE s = 0 then eInts false (rootIds s) else nilI), iv (studE s)]) := by
  have hst := studied_ok (r := r) hs
  have ho : AV.only (fun _ => false) (.tup [.p (if studE s = 0 then eInts false (rootIds s) else nilI), iv (studE s)]) = true := by
    by_cases h : studE s = 0
    · rw [if_pos h]; rfl
    · rw [if_neg h]; rfl
  refine VP.of (fn := Try.f15) tb_ok rfl (by kernel_rfl) rfl rfl ho ?_
  refine VSt.go tb_ok false [] 200 rfl (by repeat (first | exact AllP.n | refine AllP.c (by first | assumption | rfl | omega | exact Nat.le_refl _ | (show 0 < _; omega) | (show 1 < _; omega) | (show 2 < _; omega) | (show 3 < _; omega) | (intro _ _; rfl) | (intro q hq; match q, hq with | 0, _ => rfl) | (unfold inR; (try simp only [Int.ofNat_eq_natCast]); omega)) ?_)) ?_
  by_cases h : studE s = 0
  · rw [if_pos h, h] at hst
    obtain ⟨hck, hm⟩ := studE_zero h
    have hv := valid_of hck
    have hrp : 0 < (rootsL s).length := setL_pos hm
    have hrl : (rootsL s).length ≤ 1000000 := Nat.le_trans (setL_len _ _) (least_many hv)
    rw [if_pos h, h]
    first | refine VSt.pc rfl rfl rfl rfl rfl rfl rfl rfl (hst) ?_ | refine VSt.pcD rfl rfl rfl rfl rfl rfl rfl rfl (hst) ?_
    refine VSt.go tb_ok false [] 200 rfl (by repeat (first | exact AllP.n | refine AllP.c (by first | assumption | rfl | omega | exact Nat.le_refl _ | (show 0 < _; omega) | (show 1 < _; omega) | (show 2 < _; omega) | (show 3 < _; omega) | (intro _ _; rfl) | (intro q hq; match q, hq with | 0, _ => rfl) | (unfold inR; (try simp only [Int.ofNat_eq_natCast]); omega)) ?_)) ?_
    refine VSt.cond rfl (fun h1 => absurd h1 (by decide)) (fun _ => ?_)
    refine VSt.go tb_ok false [] 200 rfl (by repeat (first | exact AllP.n | refine AllP.c (by first | assumption | rfl | omega | exact Nat.le_refl _ | (show 0 < _; omega) | (show 1 < _; omega) | (show 2 < _; omega) | (show 3 < _; omega) | (intro _ _; rfl) | (intro q hq; match q, hq with | 0, _ => rfl) | (unfold inR; (try simp only [Int.ofNat_eq_natCast]); omega)) ?_)) ?_
    first | refine VSt.pc rfl rfl rfl rfl rfl rfl rfl rfl ((roots_ok hv hm)) ?_ | refine VSt.pcD rfl rfl rfl rfl rfl rfl rfl rfl ((roots_ok hv hm)) ?_
    refine VSt.go tb_ok false [] 200 rfl (by repeat (first | exact AllP.n | refine AllP.c (by first | assumption | rfl | omega | exact Nat.le_refl _ | (show 0 < _; omega) | (show 1 < _; omega) | (show 2 < _; omega) | (show 3 < _; omega) | (intro _ _; rfl) | (intro q hq; match q, hq with | 0, _ => rfl) | (unfold inR; (try simp only [Int.ofNat_eq_natCast]); omega)) ?_)) ?_
    first | refine VSt.viewC (Vw.kp [4, 6, 18, 19, 20] [] rfl) ?_ | refine VSt.viewO (Vw.kp [4, 6, 18, 19, 20] [] rfl) ?_ | refine VSt.viewD (Vw.kp [4, 6, 18, 19, 20] [] rfl) ?_
    refine VSt.viewC (Vw.adopt 0 1 (fInts fun k => idAt s ((rootsL s).getD k 0).toNat) 3 rfl) ?_
    refine VSt.rangeT tb_ok (rootsL s).length (by omega) [4, 18] (fun k => [(6, .acc true 0 1 k)]) (fun k => [(0, .acc k 1 (fInts fun k => idAt s ((rootsL s).getD k 0).toNat) 3)]) (fun _ => True) rfl rfl rfl (fun _ => rfl) rfl rfl (u0_cons rfl AImp.nilAcc u0_nil) (LImp.refl _) trivial (fun k hk _ => ?_) (fun _ => ?_)
    · have hr := root_at hv hk
      refine VSt.go tb_ok false [31] 200 rfl (by repeat (first | exact AllP.n | refine AllP.c (by first | assumption | rfl | omega | exact Nat.le_refl _ | (show 0 < _; omega) | (show 1 < _; omega) | (show 2 < _; omega) | (show 3 < _; omega) | (intro _ _; rfl) | (intro q hq; match q, hq with | 0, _ => rfl) | (unfold inR; (try simp only [Int.ofNat_eq_natCast]); omega)) ?_)) ?_
      first | refine VSt.putO 30 (nv ((rootsL s).getD k 0).toNat) rfl (iv_nv hr.2) ?_ | refine VSt.putD 30 (nv ((rootsL s).getD k 0).toNat) rfl (iv_nv hr.2) ?_ | refine VSt.putC 30 (nv ((rootsL s).getD k 0).toNat) rfl (iv_nv hr.2) ?_
      refine VSt.go tb_ok false [] 200 rfl (by repeat (first | exact AllP.n | refine AllP.c (by first | assumption | rfl | omega | exact Nat.le_refl _ | (show 0 < _; omega) | (show 1 < _; omega) | (show 2 < _; omega) | (show 3 < _; omega) | (intro _ _; rfl) | (intro q hq; match q, hq with | 0, _ => rfl) | (unfold inR; (try simp only [Int.ofNat_eq_natCast]); omega)) ?_)) ?_
      refine ⟨?_, trivial⟩
      refine Wk.vw (ps := [(0, 1)]) ⟨rfl, rfl, (by repeat (first | exact wf_nil | refine wf_back rfl rfl rfl ?_)), _, rfl, (⟨rfl, BImp.acc rfl (fun q hq => app_one (f := fInts fun k => idAt s ((rootsL s).getD k 0).toNat) rfl hq), trivial⟩)⟩
    · first | refine VSt.viewC (Vw.kp [6] [(0, 0)] rfl) ?_ | refine VSt.viewO (Vw.kp [6] [(0, 0)] rfl) ?_ | refine VSt.viewD (Vw.kp [6] [(0, 0)] rfl) ?_
      refine VSt.viewC (Vw.freezeA 0 rfl rfl ⟨Nat.le_refl _, rfl⟩) ?_
      refine VSt.go tb_ok false [] 200 rfl (by repeat (first | exact AllP.n | refine AllP.c (by first | assumption | rfl | omega | exact Nat.le_refl _ | (show 0 < _; omega) | (show 1 < _; omega) | (show 2 < _; omega) | (show 3 < _; omega) | (intro _ _; rfl) | (intro q hq; match q, hq with | 0, _ => rfl) | (unfold inR; (try simp only [Int.ofNat_eq_natCast]); omega)) ?_)) ?_
      refine ⟨rfl, _, rfl, rfl, ?_⟩
      refine AImp.tup ⟨?_, AImp.refl _, trivial⟩
      show AImp (.p (.lst 3 (true && Nat.beq (rootsL s).length 0) (rootsL s).length _)) (.p (.lst 3 false (rootIds s).length _))
      rw [rootIds_len, beq_ne (show (rootsL s).length ≠ 0 by omega)]
      exact AImp.lst fun k hk => by rw [rootIds_at s hk]; rfl
  · rw [if_neg h] at hst
    rw [if_neg h]
    first | refine VSt.pc rfl rfl rfl rfl rfl rfl rfl rfl (hst) ?_ | refine VSt.pcD rfl rfl rfl rfl rfl rfl rfl rfl (hst) ?_
    refine VSt.go tb_ok false [] 200 rfl (by repeat (first | exact AllP.n | refine AllP.c (by first | assumption | rfl | omega | exact Nat.le_refl _ | (show 0 < _; omega) | (show 1 < _; omega) | (show 2 < _; omega) | (show 3 < _; omega) | (intro _ _; rfl) | (intro q hq; match q, hq with | 0, _ => rfl) | (unfold inR; (try simp only [Int.ofNat_eq_natCast]); omega)) ?_)) ?_
    refine VSt.cond rfl (fun h1 => ?_) (fun h1 => ?_)
    · refine VSt.go tb_ok false [] 200 rfl (by repeat (first | exact AllP.n | refine AllP.c (by first | assumption | rfl | omega | exact Nat.le_refl _ | (show 0 < _; omega) | (show 1 < _; omega) | (show 2 < _; omega) | (show 3 < _; omega) | (intro _ _; rfl) | (intro q hq; match q, hq with | 0, _ => rfl) | (unfold inR; (try simp only [Int.ofNat_eq_natCast]); omega)) ?_)) ?_
      exact ⟨rfl, _, rfl, rfl, AImp.tup ⟨AImp.nil, AImp.refl _, trivial⟩⟩
    · have h1 : (!(studE s == 0)) = false := h1
      exact absurd (by simpa using h1) h
def wordsE (s : Stem) (q : Int) : Int := if ckStem s = 0 then (if wth q 0 (Int.ofNat (placesN s) - 1) = true then (if leastN s = 0 then 45 else 0) else 46) else ckStem s
theorem agreed_some {s : Stem} (hm : 0 < leastN s) : agreedV s = .tup [studyV s, iv 0] := by
  unfold agreedV
  unfold leastN at hm
  cases hl : (searchS s).least with
  | nil => rw [hl] at hm; exact absurd hm (by decide)
  | cons x l => rfl
theorem agreed_none {s : Stem} (hm : leastN s = 0) : agreedV s = .tup [.p .nilp, iv 45] := by
  unfold agreedV
  rw [List.length_eq_zero_iff.1 hm]; rfl
theorem Words_ok {s : Stem} (hs : s.Ok) (q : Int) : VP (sE r) 21 [.agg ((eStem s).map .p), iv q] (.tup [.p (if wordsE s q = 0 then eInts false (wordsL s q.toNat) else nilI), iv (wordsE s q)]) := by
  have ho : AV.only (fun _ => false) (.tup [.p (if wordsE s q = 0 then eInts false (wordsL s q.toNat) else nilI), iv (wordsE s q)]) = true := by
    by_cases h : wordsE s q = 0
    · rw [if_pos h]; rfl
    · rw [if_neg h]; rfl
  have no : ∀ e, wordsE s q = e → ¬ e = 0 → AImp (.tup [.p (.lst 0 true 0 fun _ => []), iv e]) (.tup [.p (if wordsE s q = 0 then eInts false (wordsL s q.toNat) else nilI), iv (wordsE s q)]) := fun e h1 h2 => by
    rw [h1, if_neg h2]; exact AImp.tup ⟨AImp.nil, AImp.refl _, trivial⟩
  refine VP.of (fn := Try.f21) tb_ok rfl (by kernel_rfl) rfl rfl ho ?_
  refine VSt.go tb_ok false [] 200 rfl (by repeat (first | exact AllP.n | refine AllP.c (by first | assumption | rfl | omega | exact Nat.le_refl _ | (show 0 < _; omega) | (show 1 < _; omega) | (show 2 < _; omega) | (show 3 < _; omega) | (intro _ _; rfl) | (intro q hq; match q, hq with | 0, _ => rfl) | (unfold inR; (try simp only [Int.ofNat_eq_natCast]); omega)) ?_)) ?_
  first | refine VSt.pc rfl rfl rfl rfl rfl rfl rfl rfl ((check_ok s hs)) ?_ | refine VSt.pcD rfl rfl rfl rfl rfl rfl rfl rfl ((check_ok s hs)) ?_
  refine VSt.go tb_ok false [] 200 rfl (by repeat (first | exact AllP.n | refine AllP.c (by first | assumption | rfl | omega | exact Nat.le_refl _ | (show 0 < _; omega) | (show 1 < _; omega) | (show 2 < _; omega) | (show 3 < _; omega) | (intro _ _; rfl) | (intro q hq; match q, hq with | 0, _ => rfl) | (unfold inR; (try simp only [Int.ofNat_eq_natCast]); omega)) ?_)) ?_
  refine VSt.cond rfl (fun h1 => ?_) (fun h1 => ?_)
  · have h1 : ¬ ckStem s = 0 := by simpa using h1
    refine VSt.go tb_ok false [] 200 rfl (by repeat (first | exact AllP.n | refine AllP.c (by first | assumption | rfl | omega | exact Nat.le_refl _ | (show 0 < _; omega) | (show 1 < _; omega) | (show 2 < _; omega) | (show 3 < _; omega) | (intro _ _; rfl) | (intro q hq; match q, hq with | 0, _ => rfl) | (unfold inR; (try simp only [Int.ofNat_eq_natCast]); omega)) ?_)) ?_
    exact ⟨rfl, _, rfl, rfl, no _ (if_neg h1) h1⟩
  have h1 : ckStem s = 0 := by simpa using h1
  have hv := valid_of h1
  have hpl : placesN s ≤ 16 := by
    unfold placesN
    split
    · omega
    · exact (ckCopy_of (hv.copy (k := 0) (by omega))).2.1.2
  refine VSt.go tb_ok false [] 200 rfl (by repeat (first | exact AllP.n | refine AllP.c (by first | assumption | rfl | omega | exact Nat.le_refl _ | (show 0 < _; omega) | (show 1 < _; omega) | (show 2 < _; omega) | (show 3 < _; omega) | (intro _ _; rfl) | (intro q hq; match q, hq with | 0, _ => rfl) | (unfold inR; (try simp only [Int.ofNat_eq_natCast]); omega)) ?_)) ?_
  first | refine VSt.pc rfl rfl rfl rfl rfl rfl rfl rfl ((places_ok s)) ?_ | refine VSt.pcD rfl rfl rfl rfl rfl rfl rfl rfl ((places_ok s)) ?_
  refine VSt.go tb_ok false [] 200 rfl (by repeat (first | exact AllP.n | refine AllP.c (by first | assumption | rfl | omega | exact Nat.le_refl _ | (show 0 < _; omega) | (show 1 < _; omega) | (show 2 < _; omega) | (show 3 < _; omega) | (intro _ _; rfl) | (intro q hq; match q, hq with | 0, _ => rfl) | (unfold inR; (try simp only [Int.ofNat_eq_natCast]); omega)) ?_)) ?_
  first | refine VSt.pc rfl rfl rfl rfl rfl rfl rfl rfl ((within_ok q 0 (Int.ofNat (placesN s) - 1))) ?_ | refine VSt.pcD rfl rfl rfl rfl rfl rfl rfl rfl ((within_ok q 0 (Int.ofNat (placesN s) - 1))) ?_
  refine VSt.go tb_ok false [] 200 rfl (by repeat (first | exact AllP.n | refine AllP.c (by first | assumption | rfl | omega | exact Nat.le_refl _ | (show 0 < _; omega) | (show 1 < _; omega) | (show 2 < _; omega) | (show 3 < _; omega) | (intro _ _; rfl) | (intro q hq; match q, hq with | 0, _ => rfl) | (unfold inR; (try simp only [Int.ofNat_eq_natCast]); omega)) ?_)) ?_
  refine VSt.cond rfl (fun h2 => ?_) (fun h2 => ?_)
  · have h2 : ¬ wth q 0 (Int.ofNat (placesN s) - 1) = true := by simpa using h2
    refine VSt.go tb_ok false [] 200 rfl (by repeat (first | exact AllP.n | refine AllP.c (by first | assumption | rfl | omega | exact Nat.le_refl _ | (show 0 < _; omega) | (show 1 < _; omega) | (show 2 < _; omega) | (show 3 < _; omega) | (intro _ _; rfl) | (intro q hq; match q, hq with | 0, _ => rfl) | (unfold inR; (try simp only [Int.ofNat_eq_natCast]); omega)) ?_)) ?_
    exact ⟨rfl, _, rfl, rfl, no _ (by unfold wordsE; rw [if_pos h1, if_neg h2]) (by decide)⟩
  have h2 : wth q 0 (Int.ofNat (placesN s) - 1) = true := by simpa using h2
  have h3 := wth_iff.1 h2
  have ha := agreed_ok (r := r) hs hv
  refine VSt.go tb_ok false [] 200 rfl (by repeat (first | exact AllP.n | refine AllP.c (by first | assumption | rfl | omega | exact Nat.le_refl _ | (show 0 < _; omega) | (show 1 < _; omega) | (show 2 < _; omega) | (show 3 < _; omega) | (intro _ _; rfl) | (intro q hq; match q, hq with | 0, _ => rfl) | (unfold inR; (try simp only [Int.ofNat_eq_natCast]); omega)) ?_)) ?_
  rcases Nat.eq_zero_or_pos (leastN s) with hm | hm
  · rw [agreed_none hm] at ha
    first | refine VSt.pc rfl rfl rfl rfl rfl rfl rfl rfl (ha) ?_ | refine VSt.pcD rfl rfl rfl rfl rfl rfl rfl rfl (ha) ?_
    refine VSt.go tb_ok false [] 200 rfl (by repeat (first | exact AllP.n | refine AllP.c (by first | assumption | rfl | omega | exact Nat.le_refl _ | (show 0 < _; omega) | (show 1 < _; omega) | (show 2 < _; omega) | (show 3 < _; omega) | (intro _ _; rfl) | (intro q hq; match q, hq with | 0, _ => rfl) | (unfold inR; (try simp only [Int.ofNat_eq_natCast]); omega)) ?_)) ?_
    refine VSt.cond rfl (fun _ => ?_) (fun h => absurd h (by decide))
    refine VSt.go tb_ok false [] 200 rfl (by repeat (first | exact AllP.n | refine AllP.c (by first | assumption | rfl | omega | exact Nat.le_refl _ | (show 0 < _; omega) | (show 1 < _; omega) | (show 2 < _; omega) | (show 3 < _; omega) | (intro _ _; rfl) | (intro q hq; match q, hq with | 0, _ => rfl) | (unfold inR; (try simp only [Int.ofNat_eq_natCast]); omega)) ?_)) ?_
    exact ⟨rfl, _, rfl, rfl, no _ (by unfold wordsE; rw [if_pos h1, if_pos h2, if_pos hm]) (by decide)⟩
  · have hE : wordsE s q = 0 := by unfold wordsE; rw [if_pos h1, if_pos h2, if_neg (by omega)]
    have hp0 : placesN s = (s.copies.getD 0 default).words.length := if_neg (by have := least_some hv hm; omega)
    rw [agreed_some hm] at ha
    rw [hE, if_pos rfl]
    first | refine VSt.pc rfl rfl rfl rfl rfl rfl rfl rfl (ha) ?_ | refine VSt.pcD rfl rfl rfl rfl rfl rfl rfl rfl (ha) ?_
    refine VSt.go tb_ok false [] 200 rfl (by repeat (first | exact AllP.n | refine AllP.c (by first | assumption | rfl | omega | exact Nat.le_refl _ | (show 0 < _; omega) | (show 1 < _; omega) | (show 2 < _; omega) | (show 3 < _; omega) | (intro _ _; rfl) | (intro q hq; match q, hq with | 0, _ => rfl) | (unfold inR; (try simp only [Int.ofNat_eq_natCast]); omega)) ?_)) ?_
    refine VSt.cond rfl (fun h => absurd h (by decide)) (fun _ => ?_)
    refine VSt.go tb_ok false [30] 200 rfl (by repeat (first | exact AllP.n | refine AllP.c (by first | assumption | rfl | omega | exact Nat.le_refl _ | (show 0 < _; omega) | (show 1 < _; omega) | (show 2 < _; omega) | (show 3 < _; omega) | (intro _ _; rfl) | (intro q hq; match q, hq with | 0, _ => rfl) | (unfold inR; (try simp only [Int.ofNat_eq_natCast]); omega)) ?_)) ?_
    first | refine VSt.putO 29 (nv q.toNat) rfl (iv_nv (by simp only [Int.ofNat_eq_natCast]; omega)) ?_ | refine VSt.putD 29 (nv q.toNat) rfl (iv_nv (by simp only [Int.ofNat_eq_natCast]; omega)) ?_ | refine VSt.putC 29 (nv q.toNat) rfl (iv_nv (by simp only [Int.ofNat_eq_natCast]; omega)) ?_
    first | refine VSt.pc rfl rfl rfl rfl rfl rfl rfl rfl ((words_ok hv hm (x := q.toNat) (by rw [← hp0]; simp only [Int.ofNat_eq_natCast] at h3; omega))) ?_ | refine VSt.pcD rfl rfl rfl rfl rfl rfl rfl rfl ((words_ok hv hm (x := q.toNat) (by rw [← hp0]; simp only [Int.ofNat_eq_natCast] at h3; omega))) ?_
    refine VSt.go tb_ok false [] 200 rfl (by repeat (first | exact AllP.n | refine AllP.c (by first | assumption | rfl | omega | exact Nat.le_refl _ | (show 0 < _; omega) | (show 1 < _; omega) | (show 2 < _; omega) | (show 3 < _; omega) | (intro _ _; rfl) | (intro q hq; match q, hq with | 0, _ => rfl) | (unfold inR; (try simp only [Int.ofNat_eq_natCast]); omega)) ?_)) ?_
    exact EndsP.mk rfl rfl rfl rfl
end Go.Proofs.Ytncpeobcgmkkbaa
/- Walks: a least pedigree with a root; the answer for a parent. -/
set_option maxRecDepth 100000
namespace Go.Proofs.Ytncpeobcgmkkbaa
variable {r : Tr (List Value × TypeId)}
/-- The first n of which something is so. -/
def firstN (p : Nat → Bool) : Nat → Option Nat
  | 0 => none
  | k + 1 => match firstN p k with
    | some i => some i
    | none => bif p k then some k else none
theorem firstN_none {p : Nat → Bool} : ∀ {n : Nat}, (∀ i, i < n → p i = false) → firstN p n = none
  | 0, _ => rfl
  | n + 1, h => by
    unfold firstN
    rw [firstN_none (n := n) (fun i hi => h i (by omega)), h n (by omega)]; rfl
theorem firstN_some {p : Nat → Bool} : ∀ {n k : Nat}, k < n → p k = true → (∀ i, i < k → p i = false) → firstN p n = some k
  | 0, _, h, _, _ => absurd h (Nat.not_lt_zero _)
  | n + 1, k, h, hk, hb => by
    unfold firstN
    by_cases e : k = n
    · subst e
      rw [firstN_none hb, hk]; rfl
    · rw [firstN_some (n := n) (by omega) hk hb]
theorem firstN_ex {p : Nat → Bool} : ∀ {n k : Nat}, k < n → p k = true → ∃ i, firstN p n = some i
  | 0, _, h, _ => absurd h (Nat.not_lt_zero _)
  | n + 1, k, h, hk => by
    unfold firstN
    cases hf : firstN p n with
    | some i => exact ⟨i, rfl⟩
    | none =>
      by_cases e : k = n
      · subst e; exact ⟨k, by rw [hk]; rfl⟩
      · obtain ⟨i, hi⟩ := firstN_ex (n := n) (by omega) hk
        rw [hi] at hf; cases hf
def isRootB (s : Stem) (i q : Nat) : Bool := idOf s (leastAt s q i) == 0
/-- The first least pedigree with a root. -/
def showQ (s : Stem) (i : Nat) : Option Nat := firstN (isRootB s i) (leastN s)
def showE (s : Stem) (root : Int) : Int := if ckStem s = 0 then (if place s root < 0 then 1 else if leastN s = 0 then 45 else match showQ s (place s root).toNat with | some _ => 0 | none => 3) else ckStem s
def showL (s : Stem) (root : Int) : List Int := pedOf s (leastAt s ((showQ s (place s root).toNat).getD 0))
theorem Show_ok {s : Stem} (hs : s.Ok) (root : Int) : VP (sE r) 16 [.agg ((eStem s).map .p), iv root] (.tup [.p (if showE s root = 0 then eInts false (showL s root) else nilI), iv (showE s root)]) := by
  have ho : AV.only (fun _ => false) (.tup [.p (if showE s root = 0 then eInts false (showL s root) else nilI), iv (showE s root)]) = true := by
    by_cases h : showE s root = 0
    · rw [if_pos h]; rfl
    · rw [if_neg h]; rfl
  have no : ∀ e, showE s root = e → ¬ e = 0 → AImp (.tup [.p (.lst 0 true 0 fun _ => []), iv e]) (.tup [.p (if showE s root = 0 then eInts false (showL s root) else nilI), iv (showE s root)]) := fun e h1 h2 => by
    rw [h1, if_neg h2]; exact AImp.tup ⟨AImp.nil, AImp.refl _, trivial⟩
  refine VP.of (fn := Try.f16) tb_ok rfl (by kernel_rfl) rfl rfl ho ?_
  refine VSt.go tb_ok false [] 200 rfl (by repeat (first | exact AllP.n | refine AllP.c (by first | assumption | rfl | omega | exact Nat.le_refl _ | (show 0 < _; omega) | (show 1 < _; omega) | (show 2 < _; omega) | (show 3 < _; omega) | (intro _ _; rfl) | (intro q hq; match q, hq with | 0, _ => rfl) | (unfold inR; (try simp only [Int.ofNat_eq_natCast]); omega)) ?_)) ?_
  first | refine VSt.pc rfl rfl rfl rfl rfl rfl rfl rfl ((check_ok s hs)) ?_ | refine VSt.pcD rfl rfl rfl rfl rfl rfl rfl rfl ((check_ok s hs)) ?_
  refine VSt.go tb_ok false [] 200 rfl (by repeat (first | exact AllP.n | refine AllP.c (by first | assumption | rfl | omega | exact Nat.le_refl _ | (show 0 < _; omega) | (show 1 < _; omega) | (show 2 < _; omega) | (show 3 < _; omega) | (intro _ _; rfl) | (intro q hq; match q, hq with | 0, _ => rfl) | (unfold inR; (try simp only [Int.ofNat_eq_natCast]); omega)) ?_)) ?_
  refine VSt.cond rfl (fun h1 => ?_) (fun h1 => ?_)
  · have h1 : ¬ ckStem s = 0 := by simpa using h1
    refine VSt.go tb_ok false [] 200 rfl (by repeat (first | exact AllP.n | refine AllP.c (by first | assumption | rfl | omega | exact Nat.le_refl _ | (show 0 < _; omega) | (show 1 < _; omega) | (show 2 < _; omega) | (show 3 < _; omega) | (intro _ _; rfl) | (intro q hq; match q, hq with | 0, _ => rfl) | (unfold inR; (try simp only [Int.ofNat_eq_natCast]); omega)) ?_)) ?_
    exact ⟨rfl, _, rfl, rfl, no _ (if_neg h1) h1⟩
  have h1 : ckStem s = 0 := by simpa using h1
  have hv := valid_of h1
  have hn : s.copies.length ≤ 7 := hv.c
  refine VSt.go tb_ok false [] 200 rfl (by repeat (first | exact AllP.n | refine AllP.c (by first | assumption | rfl | omega | exact Nat.le_refl _ | (show 0 < _; omega) | (show 1 < _; omega) | (show 2 < _; omega) | (show 3 < _; omega) | (intro _ _; rfl) | (intro q hq; match q, hq with | 0, _ => rfl) | (unfold inR; (try simp only [Int.ofNat_eq_natCast]); omega)) ?_)) ?_
  first | refine VSt.pc rfl rfl rfl rfl rfl rfl rfl rfl ((index_ok s root hs.c)) ?_ | refine VSt.pcD rfl rfl rfl rfl rfl rfl rfl rfl ((index_ok s root hs.c)) ?_
  refine VSt.go tb_ok false [] 200 rfl (by repeat (first | exact AllP.n | refine AllP.c (by first | assumption | rfl | omega | exact Nat.le_refl _ | (show 0 < _; omega) | (show 1 < _; omega) | (show 2 < _; omega) | (show 3 < _; omega) | (intro _ _; rfl) | (intro q hq; match q, hq with | 0, _ => rfl) | (unfold inR; (try simp only [Int.ofNat_eq_natCast]); omega)) ?_)) ?_
  refine VSt.cond rfl (fun h2 => ?_) (fun h2 => ?_)
  · have h2 : place s root < 0 := of_decide_eq_true h2
    refine VSt.go tb_ok false [] 200 rfl (by repeat (first | exact AllP.n | refine AllP.c (by first | assumption | rfl | omega | exact Nat.le_refl _ | (show 0 < _; omega) | (show 1 < _; omega) | (show 2 < _; omega) | (show 3 < _; omega) | (intro _ _; rfl) | (intro q hq; match q, hq with | 0, _ => rfl) | (unfold inR; (try simp only [Int.ofNat_eq_natCast]); omega)) ?_)) ?_
    exact ⟨rfl, _, rfl, rfl, no _ (by unfold showE; rw [if_pos h1, if_pos h2]) (by decide)⟩
  have h2 : ¬ place s root < 0 := of_decide_eq_false h2
  have hi := (place_id (s := s) (a := root) (by omega)).1
  have ha := agreed_ok (r := r) hs hv
  refine VSt.go tb_ok false [] 200 rfl (by repeat (first | exact AllP.n | refine AllP.c (by first | assumption | rfl | omega | exact Nat.le_refl _ | (show 0 < _; omega) | (show 1 < _; omega) | (show 2 < _; omega) | (show 3 < _; omega) | (intro _ _; rfl) | (intro q hq; match q, hq with | 0, _ => rfl) | (unfold inR; (try simp only [Int.ofNat_eq_natCast]); omega)) ?_)) ?_
  rcases Nat.eq_zero_or_pos (leastN s) with hm | hm
  · rw [agreed_none hm] at ha
    first | refine VSt.pc rfl rfl rfl rfl rfl rfl rfl rfl (ha) ?_ | refine VSt.pcD rfl rfl rfl rfl rfl rfl rfl rfl (ha) ?_
    refine VSt.go tb_ok false [] 200 rfl (by repeat (first | exact AllP.n | refine AllP.c (by first | assumption | rfl | omega | exact Nat.le_refl _ | (show 0 < _; omega) | (show 1 < _; omega) | (show 2 < _; omega) | (show 3 < _; omega) | (intro _ _; rfl) | (intro q hq; match q, hq with | 0, _ => rfl) | (unfold inR; (try simp only [Int.ofNat_eq_natCast]); omega)) ?_)) ?_
    refine VSt.cond rfl (fun _ => ?_) (fun h => absurd h (by decide))
    refine VSt.go tb_ok false [] 200 rfl (by repeat (first | exact AllP.n | refine AllP.c (by first | assumption | rfl | omega | exact Nat.le_refl _ | (show 0 < _; omega) | (show 1 < _; omega) | (show 2 < _; omega) | (show 3 < _; omega) | (intro _ _; rfl) | (intro q hq; match q, hq with | 0, _ => rfl) | (unfold inR; (try simp only [Int.ofNat_eq_natCast]); omega)) ?_)) ?_
    exact ⟨rfl, _, rfl, rfl, no _ (by unfold showE; rw [if_pos h1, if_neg h2, if_pos hm]) (by decide)⟩
  · have hmm := least_many hv
    have hE : showE s root = match showQ s (place s root).toNat with | some _ => 0 | none => 3 := by unfold showE; rw [if_pos h1, if_neg h2, if_neg (by omega)]
    rw [agreed_some hm] at ha
    first | refine VSt.pc rfl rfl rfl rfl rfl rfl rfl rfl (ha) ?_ | refine VSt.pcD rfl rfl rfl rfl rfl rfl rfl rfl (ha) ?_
    refine VSt.go tb_ok false [] 200 rfl (by repeat (first | exact AllP.n | refine AllP.c (by first | assumption | rfl | omega | exact Nat.le_refl _ | (show 0 < _; omega) | (show 1 < _; omega) | (show 2 < _; omega) | (show 3 < _; omega) | (intro _ _; rfl) | (intro q hq; match q, hq with | 0, _ => rfl) | (unfold inR; (try simp only [Int.ofNat_eq_natCast]); omega)) ?_)) ?_
    refine VSt.cond rfl (fun h => absurd h (by decide)) (fun _ => ?_)
    refine VSt.go tb_ok false [] 200 rfl (by repeat (first | exact AllP.n | refine AllP.c (by first | assumption | rfl | omega | exact Nat.le_refl _ | (show 0 < _; omega) | (show 1 < _; omega) | (show 2 < _; omega) | (show 3 < _; omega) | (intro _ _; rfl) | (intro q hq; match q, hq with | 0, _ => rfl) | (unfold inR; (try simp only [Int.ofNat_eq_natCast]); omega)) ?_)) ?_
    first | refine VSt.putO 7 (nv (place s root).toNat) rfl (iv_nv (by show place s root = _; simp only [Int.ofNat_eq_natCast]; omega)) ?_ | refine VSt.putD 7 (nv (place s root).toNat) rfl (iv_nv (by show place s root = _; simp only [Int.ofNat_eq_natCast]; omega)) ?_ | refine VSt.putC 7 (nv (place s root).toNat) rfl (iv_nv (by show place s root = _; simp only [Int.ofNat_eq_natCast]; omega)) ?_
    first | refine VSt.viewC (Vw.kp [7, 33, 34, 35] [] rfl) ?_ | refine VSt.viewO (Vw.kp [7, 33, 34, 35] [] rfl) ?_ | refine VSt.viewD (Vw.kp [7, 33, 34, 35] [] rfl) ?_
    refine VSt.rangeT tb_ok (leastN s) (by omega) [7, 33] (fun _ => []) (fun _ => []) (fun k => ∀ q, q < k → isRootB s (place s root).toNat q = false) rfl rfl rfl (fun _ => rfl) rfl rfl u0_nil trivial (fun i hi => absurd hi (Nat.not_lt_zero i)) (fun k hk hp => ?_) (fun hp => ?_)
    · refine VSt.go tb_ok false [] 200 rfl (by repeat (first | exact AllP.n | refine AllP.c (by first | assumption | rfl | omega | exact Nat.le_refl _ | (show 0 < _; omega) | (show 1 < _; omega) | (show 2 < _; omega) | (show 3 < _; omega) | (intro _ _; rfl) | (intro q hq; match q, hq with | 0, _ => rfl) | (unfold inR; (try simp only [Int.ofNat_eq_natCast]); omega)) ?_)) ?_
      refine VSt.cond rfl (fun h => ?_) (fun h => ?_)
      · have h : isRootB s (place s root).toNat k = true := h
        have hQ : showQ s (place s root).toNat = some k := firstN_some hk h hp
        refine VSt.go tb_ok false [] 200 rfl (by repeat (first | exact AllP.n | refine AllP.c (by first | assumption | rfl | omega | exact Nat.le_refl _ | (show 0 < _; omega) | (show 1 < _; omega) | (show 2 < _; omega) | (show 3 < _; omega) | (intro _ _; rfl) | (intro q hq; match q, hq with | 0, _ => rfl) | (unfold inR; (try simp only [Int.ofNat_eq_natCast]); omega)) ?_)) ?_
        first | refine VSt.pc rfl rfl rfl rfl rfl rfl rfl rfl ((VP.imp (cloneInt_ok (b := false) (l := pedOf s (leastAt s k)) (fun h => Bool.noConfusion h) (by rw [pedOf_len]; omega)) ⟨ids_imp2 s _, trivial⟩)) ?_ | refine VSt.pcD rfl rfl rfl rfl rfl rfl rfl rfl ((VP.imp (cloneInt_ok (b := false) (l := pedOf s (leastAt s k)) (fun h => Bool.noConfusion h) (by rw [pedOf_len]; omega)) ⟨ids_imp2 s _, trivial⟩)) ?_
        refine VSt.go tb_ok false [] 200 rfl (by repeat (first | exact AllP.n | refine AllP.c (by first | assumption | rfl | omega | exact Nat.le_refl _ | (show 0 < _; omega) | (show 1 < _; omega) | (show 2 < _; omega) | (show 3 < _; omega) | (intro _ _; rfl) | (intro q hq; match q, hq with | 0, _ => rfl) | (unfold inR; (try simp only [Int.ofNat_eq_natCast]); omega)) ?_)) ?_
        refine ⟨rfl, _, rfl, rfl, ?_⟩
        rw [show showE s root = 0 by rw [hE, hQ], if_pos rfl, show showL s root = pedOf s (leastAt s k) by unfold showL; rw [hQ]; rfl]
        exact AImp.refl _
      · have h : isRootB s (place s root).toNat k = false := h
        refine VSt.go tb_ok false [] 200 rfl (by repeat (first | exact AllP.n | refine AllP.c (by first | assumption | rfl | omega | exact Nat.le_refl _ | (show 0 < _; omega) | (show 1 < _; omega) | (show 2 < _; omega) | (show 3 < _; omega) | (intro _ _; rfl) | (intro q hq; match q, hq with | 0, _ => rfl) | (unfold inR; (try simp only [Int.ofNat_eq_natCast]); omega)) ?_)) ?_
        refine ⟨by (refine Vw.drop (by repeat (first | exact wf_nil | refine wf_back rfl rfl rfl ?_ | refine wf_cons rfl (by assumption) (ren_only _ (by assumption)) ?_))), fun q hq => ?_⟩
        by_cases e : q = k
        · subst e; exact h
        · exact hp q (by omega)
    · refine VSt.go tb_ok false [] 200 rfl (by repeat (first | exact AllP.n | refine AllP.c (by first | assumption | rfl | omega | exact Nat.le_refl _ | (show 0 < _; omega) | (show 1 < _; omega) | (show 2 < _; omega) | (show 3 < _; omega) | (intro _ _; rfl) | (intro q hq; match q, hq with | 0, _ => rfl) | (unfold inR; (try simp only [Int.ofNat_eq_natCast]); omega)) ?_)) ?_
      exact ⟨rfl, _, rfl, rfl, no _ (by rw [hE, show showQ s (place s root).toNat = none from firstN_none hp]) (by decide)⟩
/-- How many of the first k least pedigrees have a parent for a copy. -/
def cntP (s : Stem) (a : Int) (j : Nat) : Nat → Nat
  | 0 => 0
  | k + 1 => bif idOf s (leastAt s k j) == a then cntP s a j k + 1 else cntP s a j k
theorem cntP_le (s : Stem) (a : Int) (j : Nat) : ∀ k, cntP s a j k ≤ k
  | 0 => Nat.le_refl _
  | k + 1 => by
    have := cntP_le s a j k
    unfold cntP
    cases idOf s (leastAt s k j) == a <;> simp only [cond_true, cond_false] <;> omega
theorem cntP_pos {s : Stem} {a : Int} {j q : Nat} : ∀ {k : Nat}, q < k → idOf s (leastAt s q j) = a → 0 < cntP s a j k
  | 0, h, _ => absurd h (Nat.not_lt_zero _)
  | k + 1, h, hq => by
    unfold cntP
    by_cases e : q = k
    · subst e; rw [hq, beq_self_eq_true]; exact Nat.succ_pos _
    · have := cntP_pos (k := k) (by omega) hq
      cases idOf s (leastAt s k j) == a with
      | true => exact Nat.succ_pos _
      | false => exact this
theorem cntP_all {s : Stem} {a : Int} {j q : Nat} : ∀ {k : Nat}, q < k → idOf s (leastAt s q j) ≠ a → cntP s a j k < k
  | 0, h, _ => absurd h (Nat.not_lt_zero _)
  | k + 1, h, hq => by
    have hle := cntP_le s a j k
    unfold cntP
    by_cases e : q = k
    · subst e; rw [beq_false_of_ne hq]; simp only [cond_false]; omega
    · have := cntP_all (k := k) (by omega) hq
      cases idOf s (leastAt s k j) == a <;> simp only [cond_true, cond_false] <;> omega
def parA (s : Stem) (a b : Int) : Int := if cntP s a (place s b).toNat (leastN s) = 0 then 0 else if cntP s a (place s b).toNat (leastN s) = leastN s then 1 else 2
def parE (s : Stem) (a b : Int) : Int := if (twoM s a b).2.2 = 0 then (if leastN s = 0 then 45 else 0) else (twoM s a b).2.2
theorem Parent_ok {s : Stem} (hs : s.Ok) (a b : Int) : VP (sE r) 31 [.agg ((eStem s).map .p), iv a, iv b] (.tup [iv (if parE s a b = 0 then parA s a b else 0), iv (parE s a b)]) := by
  have htw := two_ok (r := r) s hs a b
  have no : ∀ e, parE s a b = e → ¬ e = 0 → AV.tup [iv 0, iv e] = .tup [iv (if parE s a b = 0 then parA s a b else 0), iv (parE s a b)] := fun e h1 h2 => by
    rw [h1, if_neg h2]
  refine VP.of (fn := Try.f31) tb_ok rfl (by kernel_rfl) rfl rfl rfl ?_
  refine VSt.go tb_ok false [] 200 rfl (by repeat (first | exact AllP.n | refine AllP.c (by first | assumption | rfl | omega | exact Nat.le_refl _ | (show 0 < _; omega) | (show 1 < _; omega) | (show 2 < _; omega) | (show 3 < _; omega) | (intro _ _; rfl) | (intro q hq; match q, hq with | 0, _ => rfl) | (unfold inR; (try simp only [Int.ofNat_eq_natCast]); omega)) ?_)) ?_
  first | refine VSt.pc rfl rfl rfl rfl rfl rfl rfl rfl (htw) ?_ | refine VSt.pcD rfl rfl rfl rfl rfl rfl rfl rfl (htw) ?_
  refine VSt.go tb_ok false [] 200 rfl (by repeat (first | exact AllP.n | refine AllP.c (by first | assumption | rfl | omega | exact Nat.le_refl _ | (show 0 < _; omega) | (show 1 < _; omega) | (show 2 < _; omega) | (show 3 < _; omega) | (intro _ _; rfl) | (intro q hq; match q, hq with | 0, _ => rfl) | (unfold inR; (try simp only [Int.ofNat_eq_natCast]); omega)) ?_)) ?_
  refine VSt.cond rfl (fun h1 => ?_) (fun h1 => ?_)
  · have h1 : ¬ (twoM s a b).2.2 = 0 := by simpa using h1
    refine VSt.go tb_ok false [] 200 rfl (by repeat (first | exact AllP.n | refine AllP.c (by first | assumption | rfl | omega | exact Nat.le_refl _ | (show 0 < _; omega) | (show 1 < _; omega) | (show 2 < _; omega) | (show 3 < _; omega) | (intro _ _; rfl) | (intro q hq; match q, hq with | 0, _ => rfl) | (unfold inR; (try simp only [Int.ofNat_eq_natCast]); omega)) ?_)) ?_
    exact EndsP.mk rfl rfl rfl (no _ (if_neg h1) h1)
  have h1 : (twoM s a b).2.2 = 0 := by simpa using h1
  have ht : ckStem s = 0 ∧ ¬ place s b < 0 ∧ (twoM s a b).2.1 = place s b := by
    unfold twoM at h1 ⊢
    by_cases hc : ckStem s = 0
    · rw [if_pos hc] at h1 ⊢
      by_cases hd : (decide (place s a < 0) || (decide (place s b < 0) || (place s a == place s b))) = true
      · rw [if_pos hd] at h1; exact absurd (show (1 : Int) = 0 from h1) (by decide)
      · rw [if_neg hd]
        refine ⟨hc, fun h => hd ?_, rfl⟩
        rw [decide_eq_true h, Bool.true_or, Bool.or_true]
    · rw [if_neg hc] at h1; exact absurd h1 hc
  obtain ⟨hck, hb, e21⟩ := ht
  have hv := valid_of hck
  have hn : s.copies.length ≤ 7 := hv.c
  have hj := (place_id (s := s) (a := b) (by omega)).1
  have ha := agreed_ok (r := r) hs hv
  refine VSt.go tb_ok false [] 200 rfl (by repeat (first | exact AllP.n | refine AllP.c (by first | assumption | rfl | omega | exact Nat.le_refl _ | (show 0 < _; omega) | (show 1 < _; omega) | (show 2 < _; omega) | (show 3 < _; omega) | (intro _ _; rfl) | (intro q hq; match q, hq with | 0, _ => rfl) | (unfold inR; (try simp only [Int.ofNat_eq_natCast]); omega)) ?_)) ?_
  rcases Nat.eq_zero_or_pos (leastN s) with hm | hm
  · rw [agreed_none hm] at ha
    first | refine VSt.pc rfl rfl rfl rfl rfl rfl rfl rfl (ha) ?_ | refine VSt.pcD rfl rfl rfl rfl rfl rfl rfl rfl (ha) ?_
    refine VSt.go tb_ok false [] 200 rfl (by repeat (first | exact AllP.n | refine AllP.c (by first | assumption | rfl | omega | exact Nat.le_refl _ | (show 0 < _; omega) | (show 1 < _; omega) | (show 2 < _; omega) | (show 3 < _; omega) | (intro _ _; rfl) | (intro q hq; match q, hq with | 0, _ => rfl) | (unfold inR; (try simp only [Int.ofNat_eq_natCast]); omega)) ?_)) ?_
    refine VSt.cond rfl (fun _ => ?_) (fun h => absurd h (by decide))
    refine VSt.go tb_ok false [] 200 rfl (by repeat (first | exact AllP.n | refine AllP.c (by first | assumption | rfl | omega | exact Nat.le_refl _ | (show 0 < _; omega) | (show 1 < _; omega) | (show 2 < _; omega) | (show 3 < _; omega) | (intro _ _; rfl) | (intro q hq; match q, hq with | 0, _ => rfl) | (unfold inR; (try simp only [Int.ofNat_eq_natCast]); omega)) ?_)) ?_
    exact EndsP.mk rfl rfl rfl (no _ (by unfold parE; rw [if_pos h1, if_pos hm]) (by decide))
  · have hmm := least_many hv
    have hE : parE s a b = 0 := by unfold parE; rw [if_pos h1, if_neg (by omega)]
    rw [agreed_some hm] at ha
    rw [hE, if_pos rfl]
    first | refine VSt.pc rfl rfl rfl rfl rfl rfl rfl rfl (ha) ?_ | refine VSt.pcD rfl rfl rfl rfl rfl rfl rfl rfl (ha) ?_
    refine VSt.go tb_ok false [] 200 rfl (by repeat (first | exact AllP.n | refine AllP.c (by first | assumption | rfl | omega | exact Nat.le_refl _ | (show 0 < _; omega) | (show 1 < _; omega) | (show 2 < _; omega) | (show 3 < _; omega) | (intro _ _; rfl) | (intro q hq; match q, hq with | 0, _ => rfl) | (unfold inR; (try simp only [Int.ofNat_eq_natCast]); omega)) ?_)) ?_
    refine VSt.cond rfl (fun h => absurd h (by decide)) (fun _ => ?_)
    refine VSt.go tb_ok false [] 200 rfl (by repeat (first | exact AllP.n | refine AllP.c (by first | assumption | rfl | omega | exact Nat.le_refl _ | (show 0 < _; omega) | (show 1 < _; omega) | (show 2 < _; omega) | (show 3 < _; omega) | (intro _ _; rfl) | (intro q hq; match q, hq with | 0, _ => rfl) | (unfold inR; (try simp only [Int.ofNat_eq_natCast]); omega)) ?_)) ?_
    first | refine VSt.putO 9 (nv (place s b).toNat) rfl (iv_nv (by show (twoM s a b).2.1 = _; rw [e21]; simp only [Int.ofNat_eq_natCast]; omega)) ?_ | refine VSt.putD 9 (nv (place s b).toNat) rfl (iv_nv (by show (twoM s a b).2.1 = _; rw [e21]; simp only [Int.ofNat_eq_natCast]; omega)) ?_ | refine VSt.putC 9 (nv (place s b).toNat) rfl (iv_nv (by show (twoM s a b).2.1 = _; rw [e21]; simp only [Int.ofNat_eq_natCast]; omega)) ?_
    first | refine VSt.viewC (Vw.kp [1, 9, 11, 12, 37, 38, 39] [] rfl) ?_ | refine VSt.viewO (Vw.kp [1, 9, 11, 12, 37, 38, 39] [] rfl) ?_ | refine VSt.viewD (Vw.kp [1, 9, 11, 12, 37, 38, 39] [] rfl) ?_
    refine VSt.rangeT tb_ok (leastN s) (by omega) [1, 9, 11, 37] (fun k => [(12, nv (cntP s a (place s b).toNat k))]) (fun _ => []) (fun _ => True) rfl rfl rfl (fun _ => rfl) rfl rfl (u0_cons rfl (AImp.refl _) u0_nil) trivial trivial (fun k hk _ => ?_) (fun _ => ?_)
    · have hle := cntP_le s a (place s b).toNat k
      refine VSt.go tb_ok false [] 200 rfl (by repeat (first | exact AllP.n | refine AllP.c (by first | assumption | rfl | omega | exact Nat.le_refl _ | (show 0 < _; omega) | (show 1 < _; omega) | (show 2 < _; omega) | (show 3 < _; omega) | (intro _ _; rfl) | (intro q hq; match q, hq with | 0, _ => rfl) | (unfold inR; (try simp only [Int.ofNat_eq_natCast]); omega)) ?_)) ?_
      refine VSt.cond rfl (fun h => ?_) (fun h => ?_)
      · have h : (idOf s (leastAt s k (place s b).toNat) == a) = true := h
        have e : cntP s a (place s b).toNat (k + 1) = cntP s a (place s b).toNat k + 1 := by rw [cntP, h]; rfl
        refine VSt.go tb_ok false [] 200 rfl (by repeat (first | exact AllP.n | refine AllP.c (by first | assumption | rfl | omega | exact Nat.le_refl _ | (show 0 < _; omega) | (show 1 < _; omega) | (show 2 < _; omega) | (show 3 < _; omega) | (intro _ _; rfl) | (intro q hq; match q, hq with | 0, _ => rfl) | (unfold inR; (try simp only [Int.ofNat_eq_natCast]); omega)) ?_)) ?_
        refine ⟨?_, trivial⟩
        dsimp only
        rw [e]
        (refine Vw.drop (by repeat (first | exact wf_nil | refine wf_back rfl rfl rfl ?_ | refine wf_cons rfl (by assumption) (ren_only _ (by assumption)) ?_)))
      · have h : (idOf s (leastAt s k (place s b).toNat) == a) = false := h
        have e : cntP s a (place s b).toNat (k + 1) = cntP s a (place s b).toNat k := by rw [cntP, h]; rfl
        refine VSt.go tb_ok false [] 200 rfl (by repeat (first | exact AllP.n | refine AllP.c (by first | assumption | rfl | omega | exact Nat.le_refl _ | (show 0 < _; omega) | (show 1 < _; omega) | (show 2 < _; omega) | (show 3 < _; omega) | (intro _ _; rfl) | (intro q hq; match q, hq with | 0, _ => rfl) | (unfold inR; (try simp only [Int.ofNat_eq_natCast]); omega)) ?_)) ?_
        refine ⟨?_, trivial⟩
        dsimp only
        rw [e]
        (refine Vw.drop (by repeat (first | exact wf_nil | refine wf_back rfl rfl rfl ?_ | refine wf_cons rfl (by assumption) (ren_only _ (by assumption)) ?_)))
    · refine VSt.go tb_ok false [] 200 rfl (by repeat (first | exact AllP.n | refine AllP.c (by first | assumption | rfl | omega | exact Nat.le_refl _ | (show 0 < _; omega) | (show 1 < _; omega) | (show 2 < _; omega) | (show 3 < _; omega) | (intro _ _; rfl) | (intro q hq; match q, hq with | 0, _ => rfl) | (unfold inR; (try simp only [Int.ofNat_eq_natCast]); omega)) ?_)) ?_
      refine VSt.cond rfl (fun h => ?_) (fun h => ?_)
      · have h : cntP s a (place s b).toNat (leastN s) = 0 := by
          have h2 : (Int.ofNat (cntP s a (place s b).toNat (leastN s)) == 0) = true := h
          have h3 : Int.ofNat (cntP s a (place s b).toNat (leastN s)) = 0 := by simpa using h2
          exact Int.ofNat_inj.1 h3
        refine VSt.go tb_ok false [] 200 rfl (by repeat (first | exact AllP.n | refine AllP.c (by first | assumption | rfl | omega | exact Nat.le_refl _ | (show 0 < _; omega) | (show 1 < _; omega) | (show 2 < _; omega) | (show 3 < _; omega) | (intro _ _; rfl) | (intro q hq; match q, hq with | 0, _ => rfl) | (unfold inR; (try simp only [Int.ofNat_eq_natCast]); omega)) ?_)) ?_
        refine EndsP.mk rfl rfl rfl ?_
        unfold parA
        rw [if_pos h]; rfl
      have h : ¬ cntP s a (place s b).toNat (leastN s) = 0 := fun e => by
        have h2 : (Int.ofNat (cntP s a (place s b).toNat (leastN s)) == 0) = false := h
        rw [e] at h2; exact absurd h2 (by decide)
      refine VSt.go tb_ok false [] 200 rfl (by repeat (first | exact AllP.n | refine AllP.c (by first | assumption | rfl | omega | exact Nat.le_refl _ | (show 0 < _; omega) | (show 1 < _; omega) | (show 2 < _; omega) | (show 3 < _; omega) | (intro _ _; rfl) | (intro q hq; match q, hq with | 0, _ => rfl) | (unfold inR; (try simp only [Int.ofNat_eq_natCast]); omega)) ?_)) ?_
      refine VSt.cond rfl (fun h4 => ?_) (fun h4 => ?_)
      · have h4 : cntP s a (place s b).toNat (leastN s) = leastN s := by
          have h2 : (Int.ofNat (cntP s a (place s b).toNat (leastN s)) == Int.ofNat (leastN s)) = true := h4
          have h3 : Int.ofNat (cntP s a (place s b).toNat (leastN s)) = Int.ofNat (leastN s) := by simpa using h2
          exact Int.ofNat_inj.1 h3
        refine VSt.go tb_ok false [] 200 rfl (by repeat (first | exact AllP.n | refine AllP.c (by first | assumption | rfl | omega | exact Nat.le_refl _ | (show 0 < _; omega) | (show 1 < _; omega) | (show 2 < _; omega) | (show 3 < _; omega) | (intro _ _; rfl) | (intro q hq; match q, hq with | 0, _ => rfl) | (unfold inR; (try simp only [Int.ofNat_eq_natCast]); omega)) ?_)) ?_
        refine EndsP.mk rfl rfl rfl ?_
        unfold parA
        rw [if_neg h, if_pos h4]; rfl
      · have h4 : ¬ cntP s a (place s b).toNat (leastN s) = leastN s := fun e => by
          have h2 : (Int.ofNat (cntP s a (place s b).toNat (leastN s)) == Int.ofNat (leastN s)) = false := h4
          rw [e, beq_self_eq_true] at h2; exact absurd h2 (by decide)
        refine VSt.go tb_ok false [] 200 rfl (by repeat (first | exact AllP.n | refine AllP.c (by first | assumption | rfl | omega | exact Nat.le_refl _ | (show 0 < _; omega) | (show 1 < _; omega) | (show 2 < _; omega) | (show 3 < _; omega) | (intro _ _; rfl) | (intro q hq; match q, hq with | 0, _ => rfl) | (unfold inR; (try simp only [Int.ofNat_eq_natCast]); omega)) ?_)) ?_
        refine EndsP.mk rfl rfl rfl ?_
        unfold parA
        rw [if_neg h, if_neg h4]; rfl
end Go.Proofs.Ytncpeobcgmkkbaa
/- Walks: the root of a pedigree; whether a pedigree agrees with what is asked. -/
set_option maxRecDepth 100000
namespace Go.Proofs.Ytncpeobcgmkkbaa
variable {r : Tr (List Value × TypeId)}
theorem any_at {l : List Int} {p : Int → Bool} {k : Nat} (hk : k < l.length) (h : p (l.getD k 0) = true) : l.any p = true := by
  rw [List.any_eq_true]
  exact ⟨l.getD k 0, by rw [getD_get hk]; exact List.getElem_mem hk, h⟩
theorem any_no {l : List Int} {p : Int → Bool} (h : ∀ k, k < l.length → p (l.getD k 0) = false) : l.any p = false := by
  rw [List.any_eq_false]
  intro x hx
  obtain ⟨k, hk, rfl⟩ := List.mem_iff_getElem.1 hx
  have := h k hk
  rw [getD_get hk] at this
  rw [this]; decide
theorem Lists_ok {b : Bool} {l : List Int} (x : Int) (hn : l.length < 9223372036854775808) : VP (sE r) 18 [.p (eInts b l), iv x] (bv (l.any fun y => y == x)) := by
  refine VP.of (fn := Try.f18) tb_ok rfl (by kernel_rfl) rfl rfl rfl ?_
  refine VSt.go tb_ok false [] 200 rfl (by repeat (first | exact AllP.n | refine AllP.c (by first | assumption | rfl | omega | exact Nat.le_refl _ | (show 0 < _; omega) | (show 1 < _; omega) | (show 2 < _; omega) | (show 3 < _; omega) | (intro _ _; rfl) | (intro q hq; match q, hq with | 0, _ => rfl) | (unfold inR; (try simp only [Int.ofNat_eq_natCast]); omega)) ?_)) ?_
  refine VSt.rangeT tb_ok l.length hn [1, 7] (fun _ => []) (fun _ => []) (fun k => ∀ i, i < k → (l.getD i 0 == x) = false) rfl rfl rfl (fun _ => rfl) rfl rfl u0_nil trivial (fun i hi => absurd hi (Nat.not_lt_zero i)) (fun k hk hp => ?_) (fun hp => ?_)
  · refine VSt.go tb_ok false [] 200 rfl (by repeat (first | exact AllP.n | refine AllP.c (by first | assumption | rfl | omega | exact Nat.le_refl _ | (show 0 < _; omega) | (show 1 < _; omega) | (show 2 < _; omega) | (show 3 < _; omega) | (intro _ _; rfl) | (intro q hq; match q, hq with | 0, _ => rfl) | (unfold inR; (try simp only [Int.ofNat_eq_natCast]); omega)) ?_)) ?_
    refine VSt.cond rfl (fun h => ?_) (fun h => ?_)
    · refine VSt.go tb_ok false [] 200 rfl (by repeat (first | exact AllP.n | refine AllP.c (by first | assumption | rfl | omega | exact Nat.le_refl _ | (show 0 < _; omega) | (show 1 < _; omega) | (show 2 < _; omega) | (show 3 < _; omega) | (intro _ _; rfl) | (intro q hq; match q, hq with | 0, _ => rfl) | (unfold inR; (try simp only [Int.ofNat_eq_natCast]); omega)) ?_)) ?_
      refine EndsP.mk rfl rfl rfl ?_
      rw [any_at (p := fun y => y == x) hk h]; rfl
    · refine VSt.go tb_ok false [] 200 rfl (by repeat (first | exact AllP.n | refine AllP.c (by first | assumption | rfl | omega | exact Nat.le_refl _ | (show 0 < _; omega) | (show 1 < _; omega) | (show 2 < _; omega) | (show 3 < _; omega) | (intro _ _; rfl) | (intro q hq; match q, hq with | 0, _ => rfl) | (unfold inR; (try simp only [Int.ofNat_eq_natCast]); omega)) ?_)) ?_
      refine ⟨by (refine Vw.drop (by repeat (first | exact wf_nil | refine wf_back rfl rfl rfl ?_ | refine wf_cons rfl (by assumption) (ren_only _ (by assumption)) ?_))), fun i hi => ?_⟩
      by_cases e : i = k
      · subst e; exact h
      · exact hp i (by omega)
  · refine VSt.go tb_ok false [] 200 rfl (by repeat (first | exact AllP.n | refine AllP.c (by first | assumption | rfl | omega | exact Nat.le_refl _ | (show 0 < _; omega) | (show 1 < _; omega) | (show 2 < _; omega) | (show 3 < _; omega) | (intro _ _; rfl) | (intro q hq; match q, hq with | 0, _ => rfl) | (unfold inR; (try simp only [Int.ofNat_eq_natCast]); omega)) ?_)) ?_
    refine EndsP.mk rfl rfl rfl ?_
    rw [any_no (p := fun y => y == x) hp]; rfl
/-- The Id of the root of a list of Ids. -/
def rootI (s : Stem) (l : List Int) : Int := match firstN (fun k => l.getD k 0 == 0 && decide (k < s.copies.length)) l.length with
  | some k => idAt s k
  | none => 0
theorem rootOf_ok {s : Stem} {b : Bool} {l : List Int} (hl : l.length < 9223372036854775808) : VP (sE r) 19 [.agg ((eStem s).map .p), .p (eInts b l)] (iv (rootI s l)) := by
  refine VP.of (fn := Try.f19) tb_ok rfl (by kernel_rfl) rfl rfl rfl ?_
  refine VSt.go tb_ok false [] 200 rfl (by repeat (first | exact AllP.n | refine AllP.c (by first | assumption | rfl | omega | exact Nat.le_refl _ | (show 0 < _; omega) | (show 1 < _; omega) | (show 2 < _; omega) | (show 3 < _; omega) | (intro _ _; rfl) | (intro q hq; match q, hq with | 0, _ => rfl) | (unfold inR; (try simp only [Int.ofNat_eq_natCast]); omega)) ?_)) ?_
  refine VSt.viewC (Vw.freezeC 0 (eStem s) rfl rfl) ?_
  refine VSt.rangeT tb_ok l.length hl [2, 7] (fun _ => []) (fun _ => []) (fun k => ∀ i, i < k → (l.getD i 0 == 0 && decide (i < s.copies.length)) = false) rfl rfl rfl (fun _ => rfl) rfl rfl u0_nil trivial (fun i hi => absurd hi (Nat.not_lt_zero i)) (fun k hk hp => ?_) (fun hp => ?_)
  · have next : (l.getD k 0 == 0 && decide (k < s.copies.length)) = false → ∀ i, i < k + 1 → (l.getD i 0 == 0 && decide (i < s.copies.length)) = false := fun h i hi => by
      by_cases e : i = k
      · subst e; exact h
      · exact hp i (by omega)
    refine VSt.go tb_ok false [] 200 rfl (by repeat (first | exact AllP.n | refine AllP.c (by first | assumption | rfl | omega | exact Nat.le_refl _ | (show 0 < _; omega) | (show 1 < _; omega) | (show 2 < _; omega) | (show 3 < _; omega) | (intro _ _; rfl) | (intro q hq; match q, hq with | 0, _ => rfl) | (unfold inR; (try simp only [Int.ofNat_eq_natCast]); omega)) ?_)) ?_
    first | refine VSt.splitO 16 rfl (fun h => ?_) (fun h => ?_) | refine VSt.splitD 16 rfl (fun h => ?_) (fun h => ?_)
    · have h : (l.getD k 0 == 0) = true := h
      refine VSt.go tb_ok false [] 200 rfl (by repeat (first | exact AllP.n | refine AllP.c (by first | assumption | rfl | omega | exact Nat.le_refl _ | (show 0 < _; omega) | (show 1 < _; omega) | (show 2 < _; omega) | (show 3 < _; omega) | (intro _ _; rfl) | (intro q hq; match q, hq with | 0, _ => rfl) | (unfold inR; (try simp only [Int.ofNat_eq_natCast]); omega)) ?_)) ?_
      refine VSt.cond rfl (fun h2 => ?_) (fun h2 => ?_)
      · have h2 : k < s.copies.length := by have := of_decide_eq_true h2; simp only [Int.ofNat_eq_natCast] at this; omega
        refine VSt.go tb_ok false [] 200 rfl (by repeat (first | exact AllP.n | refine AllP.c (by first | assumption | rfl | omega | exact Nat.le_refl _ | (show 0 < _; omega) | (show 1 < _; omega) | (show 2 < _; omega) | (show 3 < _; omega) | (intro _ _; rfl) | (intro q hq; match q, hq with | 0, _ => rfl) | (unfold inR; (try simp only [Int.ofNat_eq_natCast]); omega)) ?_)) ?_
        refine EndsP.mk rfl rfl rfl ?_
        unfold rootI
        rw [firstN_some hk (by rw [h, decide_eq_true h2]; rfl) hp]; rfl
      · have h2 : ¬ k < s.copies.length := by have := of_decide_eq_false h2; simp only [Int.ofNat_eq_natCast] at this; omega
        refine VSt.go tb_ok false [] 200 rfl (by repeat (first | exact AllP.n | refine AllP.c (by first | assumption | rfl | omega | exact Nat.le_refl _ | (show 0 < _; omega) | (show 1 < _; omega) | (show 2 < _; omega) | (show 3 < _; omega) | (intro _ _; rfl) | (intro q hq; match q, hq with | 0, _ => rfl) | (unfold inR; (try simp only [Int.ofNat_eq_natCast]); omega)) ?_)) ?_
        exact ⟨by (refine Vw.drop (by repeat (first | exact wf_nil | refine wf_back rfl rfl rfl ?_ | refine wf_cons rfl (by assumption) (ren_only _ (by assumption)) ?_))), next (by rw [decide_eq_false h2, Bool.and_false])⟩
    · have h : (l.getD k 0 == 0) = false := h
      refine VSt.go tb_ok false [] 200 rfl (by repeat (first | exact AllP.n | refine AllP.c (by first | assumption | rfl | omega | exact Nat.le_refl _ | (show 0 < _; omega) | (show 1 < _; omega) | (show 2 < _; omega) | (show 3 < _; omega) | (intro _ _; rfl) | (intro q hq; match q, hq with | 0, _ => rfl) | (unfold inR; (try simp only [Int.ofNat_eq_natCast]); omega)) ?_)) ?_
      exact ⟨by (refine Vw.drop (by repeat (first | exact wf_nil | refine wf_back rfl rfl rfl ?_ | refine wf_cons rfl (by assumption) (ren_only _ (by assumption)) ?_))), next (by rw [h]; rfl)⟩
  · refine VSt.go tb_ok false [] 200 rfl (by repeat (first | exact AllP.n | refine AllP.c (by first | assumption | rfl | omega | exact Nat.le_refl _ | (show 0 < _; omega) | (show 1 < _; omega) | (show 2 < _; omega) | (show 3 < _; omega) | (intro _ _; rfl) | (intro q hq; match q, hq with | 0, _ => rfl) | (unfold inR; (try simp only [Int.ofNat_eq_natCast]); omega)) ?_)) ?_
    refine EndsP.mk rfl rfl rfl ?_
    unfold rootI
    rw [firstN_none hp]; rfl
theorem agrees_ok {s : Stem} {b : Bool} {l : List Int} (hv : s.Valid) (hl : l.length < 9223372036854775808) {i : Nat} (hi : i < s.copies.length) (hr : rootI s l = idAt s i) (ha : ∀ x, x < placesN s → 0 ≤ textF s x → wd s i x = textF s x) :
    VP (sE r) 17 [.agg ((eStem s).map .p), .p (eInts b l), .p (eInts false (textL s))] (bv true) := by
  have hn : s.copies.length ≤ 7 := hv.c
  have hpn : placesN s = (s.copies.getD 0 default).words.length := if_neg (by omega)
  have hpl := (ckCopy_of (hv.copy (k := 0) (by omega))).2.1.2
  refine VP.of (fn := Try.f17) tb_ok rfl (by kernel_rfl) rfl rfl rfl ?_
  refine VSt.go tb_ok false [] 200 rfl (by repeat (first | exact AllP.n | refine AllP.c (by first | assumption | rfl | omega | exact Nat.le_refl _ | (show 0 < _; omega) | (show 1 < _; omega) | (show 2 < _; omega) | (show 3 < _; omega) | (intro _ _; rfl) | (intro q hq; match q, hq with | 0, _ => rfl) | (unfold inR; (try simp only [Int.ofNat_eq_natCast]); omega)) ?_)) ?_
  refine VSt.viewC (Vw.freezeC 0 (eStem s) rfl rfl) ?_
  refine VSt.rangeT tb_ok s.copies.length (by omega) [1, 2, 3, 12] (fun _ => []) (fun _ => []) (fun _ => True) rfl rfl rfl (fun _ => rfl) rfl rfl u0_nil trivial trivial (fun k hk _ => ?_) (fun _ => ?_)
  · refine VSt.go tb_ok false [] 200 rfl (by repeat (first | exact AllP.n | refine AllP.c (by first | assumption | rfl | omega | exact Nat.le_refl _ | (show 0 < _; omega) | (show 1 < _; omega) | (show 2 < _; omega) | (show 3 < _; omega) | (intro _ _; rfl) | (intro q hq; match q, hq with | 0, _ => rfl) | (unfold inR; (try simp only [Int.ofNat_eq_natCast]); omega)) ?_)) ?_
    first | refine VSt.pc rfl rfl rfl rfl rfl rfl rfl rfl ((rootOf_ok (b := b) hl)) ?_ | refine VSt.pcD rfl rfl rfl rfl rfl rfl rfl rfl ((rootOf_ok (b := b) hl)) ?_
    rw [hr]
    refine VSt.go tb_ok false [] 200 rfl (by repeat (first | exact AllP.n | refine AllP.c (by first | assumption | rfl | omega | exact Nat.le_refl _ | (show 0 < _; omega) | (show 1 < _; omega) | (show 2 < _; omega) | (show 3 < _; omega) | (intro _ _; rfl) | (intro q hq; match q, hq with | 0, _ => rfl) | (unfold inR; (try simp only [Int.ofNat_eq_natCast]); omega)) ?_)) ?_
    refine VSt.cond rfl (fun h => ?_) (fun h => ?_)
    · refine VSt.go tb_ok false [] 200 rfl (by repeat (first | exact AllP.n | refine AllP.c (by first | assumption | rfl | omega | exact Nat.le_refl _ | (show 0 < _; omega) | (show 1 < _; omega) | (show 2 < _; omega) | (show 3 < _; omega) | (intro _ _; rfl) | (intro q hq; match q, hq with | 0, _ => rfl) | (unfold inR; (try simp only [Int.ofNat_eq_natCast]); omega)) ?_)) ?_
      exact ⟨by (refine Vw.drop (by repeat (first | exact wf_nil | refine wf_back rfl rfl rfl ?_ | refine wf_cons rfl (by assumption) (ren_only _ (by assumption)) ?_))), trivial⟩
    have h : k = i := by
      have h2 : (!(idAt s k == idAt s i)) = false := h
      exact idAt_inj hv hk hi (by simpa using h2)
    subst h
    have hwl := hv.words hk
    refine VSt.go tb_ok false [] 200 rfl (by repeat (first | exact AllP.n | refine AllP.c (by first | assumption | rfl | omega | exact Nat.le_refl _ | (show 0 < _; omega) | (show 1 < _; omega) | (show 2 < _; omega) | (show 3 < _; omega) | (intro _ _; rfl) | (intro q hq; match q, hq with | 0, _ => rfl) | (unfold inR; (try simp only [Int.ofNat_eq_natCast]); omega)) ?_)) ?_
    refine VSt.viewC (Vw.freezeC 0 (eCopy (s.copies.getD k default)) rfl rfl) ?_
    refine VSt.rangeT tb_ok (textL s).length (by rw [textL_len]; omega) [1, 2, 3, 8, 12, 13, 14, 24] (fun _ => []) (fun _ => []) (fun _ => True) rfl rfl rfl (fun _ => rfl) rfl rfl u0_nil trivial trivial (fun x hx _ => ?_) (fun _ => ?_)
    · have hx2 : x < placesN s := by rw [← textL_len]; exact hx
      have ht := textL_at s hx2
      have hwx : x < (s.copies.getD k default).words.length := by omega
      refine VSt.go tb_ok false [] 200 rfl (by repeat (first | exact AllP.n | refine AllP.c (by first | assumption | rfl | omega | exact Nat.le_refl _ | (show 0 < _; omega) | (show 1 < _; omega) | (show 2 < _; omega) | (show 3 < _; omega) | (intro _ _; rfl) | (intro q hq; match q, hq with | 0, _ => rfl) | (unfold inR; (try simp only [Int.ofNat_eq_natCast]); omega)) ?_)) ?_
      first | refine VSt.splitO 33 rfl (fun g => ?_) (fun g => ?_) | refine VSt.splitD 33 rfl (fun g => ?_) (fun g => ?_)
      · have g : decide (0 ≤ (textL s).getD x 0) = true := g
        have g := of_decide_eq_true g
        rw [ht] at g
        have hwd := ha x hx2 g
        refine VSt.go tb_ok false [] 200 rfl (by repeat (first | exact AllP.n | refine AllP.c (by first | assumption | rfl | omega | exact Nat.le_refl _ | (show 0 < _; omega) | (show 1 < _; omega) | (show 2 < _; omega) | (show 3 < _; omega) | (intro _ _; rfl) | (intro q hq; match q, hq with | 0, _ => rfl) | (unfold inR; (try simp only [Int.ofNat_eq_natCast]); omega)) ?_)) ?_
        refine VSt.cond rfl (fun g2 => ?_) (fun _ => ?_)
        · have g2 : (!(wd s k x == (textL s).getD x 0)) = true := g2
          rw [hwd, ht, beq_self_eq_true] at g2
          exact absurd g2 (by decide)
        · refine VSt.go tb_ok false [] 200 rfl (by repeat (first | exact AllP.n | refine AllP.c (by first | assumption | rfl | omega | exact Nat.le_refl _ | (show 0 < _; omega) | (show 1 < _; omega) | (show 2 < _; omega) | (show 3 < _; omega) | (intro _ _; rfl) | (intro q hq; match q, hq with | 0, _ => rfl) | (unfold inR; (try simp only [Int.ofNat_eq_natCast]); omega)) ?_)) ?_
          exact ⟨by (refine Vw.drop (by repeat (first | exact wf_nil | refine wf_back rfl rfl rfl ?_ | refine wf_cons rfl (by assumption) (ren_only _ (by assumption)) ?_))), trivial⟩
      · refine VSt.go tb_ok false [] 200 rfl (by repeat (first | exact AllP.n | refine AllP.c (by first | assumption | rfl | omega | exact Nat.le_refl _ | (show 0 < _; omega) | (show 1 < _; omega) | (show 2 < _; omega) | (show 3 < _; omega) | (intro _ _; rfl) | (intro q hq; match q, hq with | 0, _ => rfl) | (unfold inR; (try simp only [Int.ofNat_eq_natCast]); omega)) ?_)) ?_
        exact ⟨by (refine Vw.drop (by repeat (first | exact wf_nil | refine wf_back rfl rfl rfl ?_ | refine wf_cons rfl (by assumption) (ren_only _ (by assumption)) ?_))), trivial⟩
    · refine VSt.go tb_ok false [] 200 rfl (by repeat (first | exact AllP.n | refine AllP.c (by first | assumption | rfl | omega | exact Nat.le_refl _ | (show 0 < _; omega) | (show 1 < _; omega) | (show 2 < _; omega) | (show 3 < _; omega) | (intro _ _; rfl) | (intro q hq; match q, hq with | 0, _ => rfl) | (unfold inR; (try simp only [Int.ofNat_eq_natCast]); omega)) ?_)) ?_
      exact ⟨by (refine Vw.drop (by repeat (first | exact wf_nil | refine wf_back rfl rfl rfl ?_ | refine wf_cons rfl (by assumption) (ren_only _ (by assumption)) ?_))), trivial⟩
  · refine VSt.go tb_ok false [] 200 rfl (by repeat (first | exact AllP.n | refine AllP.c (by first | assumption | rfl | omega | exact Nat.le_refl _ | (show 0 < _; omega) | (show 1 < _; omega) | (show 2 < _; omega) | (show 3 < _; omega) | (intro _ _; rfl) | (intro q hq; match q, hq with | 0, _ => rfl) | (unfold inR; (try simp only [Int.ofNat_eq_natCast]); omega)) ?_)) ?_
    exact EndsP.mk rfl rfl rfl rfl
/-- What the answers allow. -/
structure ParOk (s : Stem) (l : List Int) : Prop where
  e : ∀ j k, j < s.copies.length → k < s.copies.length → j ≠ k → parE s (idAt s j) (idAt s k) = 0
  no : ∀ j k, j < s.copies.length → k < s.copies.length → j ≠ k → l.getD k 0 = idAt s j → parA s (idAt s j) (idAt s k) ≠ 0
  yes : ∀ j k, j < s.copies.length → k < s.copies.length → j ≠ k → l.getD k 0 ≠ idAt s j → parA s (idAt s j) (idAt s k) ≠ 1
theorem parents_ok {s : Stem} {b : Bool} {l : List Int} (hs : s.Ok) (hv : s.Valid) (hl : l.length = s.copies.length) (hp : ParOk s l) :
    VP (sE r) 20 [.agg ((eStem s).map .p), .p (eInts b l)] (bv true) := by
  have hn : s.copies.length ≤ 7 := hv.c
  refine VP.of (fn := Try.f20) tb_ok rfl (by kernel_rfl) rfl rfl rfl ?_
  refine VSt.go tb_ok false [] 200 rfl (by repeat (first | exact AllP.n | refine AllP.c (by first | assumption | rfl | omega | exact Nat.le_refl _ | (show 0 < _; omega) | (show 1 < _; omega) | (show 2 < _; omega) | (show 3 < _; omega) | (intro _ _; rfl) | (intro q hq; match q, hq with | 0, _ => rfl) | (unfold inR; (try simp only [Int.ofNat_eq_natCast]); omega)) ?_)) ?_
  refine VSt.viewC (Vw.freezeC 0 (eStem s) rfl rfl) ?_
  refine VSt.rangeT tb_ok s.copies.length (by omega) [1, 2, 13] (fun _ => []) (fun _ => []) (fun _ => True) rfl rfl rfl (fun _ => rfl) rfl rfl u0_nil trivial trivial (fun k hk _ => ?_) (fun _ => ?_)
  · refine VSt.go tb_ok false [] 200 rfl (by repeat (first | exact AllP.n | refine AllP.c (by first | assumption | rfl | omega | exact Nat.le_refl _ | (show 0 < _; omega) | (show 1 < _; omega) | (show 2 < _; omega) | (show 3 < _; omega) | (intro _ _; rfl) | (intro q hq; match q, hq with | 0, _ => rfl) | (unfold inR; (try simp only [Int.ofNat_eq_natCast]); omega)) ?_)) ?_
    refine VSt.viewC (Vw.freezeC 0 (eCopy (s.copies.getD k default)) rfl rfl) ?_
    refine VSt.rangeT tb_ok s.copies.length (by omega) [1, 2, 5, 6, 13, 14, 15, 21] (fun _ => []) (fun _ => []) (fun _ => True) rfl rfl rfl (fun _ => rfl) rfl rfl u0_nil trivial trivial (fun j hj _ => ?_) (fun _ => ?_)
    · refine VSt.go tb_ok false [] 200 rfl (by repeat (first | exact AllP.n | refine AllP.c (by first | assumption | rfl | omega | exact Nat.le_refl _ | (show 0 < _; omega) | (show 1 < _; omega) | (show 2 < _; omega) | (show 3 < _; omega) | (intro _ _; rfl) | (intro q hq; match q, hq with | 0, _ => rfl) | (unfold inR; (try simp only [Int.ofNat_eq_natCast]); omega)) ?_)) ?_
      refine VSt.cond rfl (fun h => ?_) (fun h => ?_)
      · refine VSt.go tb_ok false [] 200 rfl (by repeat (first | exact AllP.n | refine AllP.c (by first | assumption | rfl | omega | exact Nat.le_refl _ | (show 0 < _; omega) | (show 1 < _; omega) | (show 2 < _; omega) | (show 3 < _; omega) | (intro _ _; rfl) | (intro q hq; match q, hq with | 0, _ => rfl) | (unfold inR; (try simp only [Int.ofNat_eq_natCast]); omega)) ?_)) ?_
        exact ⟨by (refine Vw.drop (by repeat (first | exact wf_nil | refine wf_back rfl rfl rfl ?_ | refine wf_cons rfl (by assumption) (ren_only _ (by assumption)) ?_))), trivial⟩
      have h : j ≠ k := fun e => by
        have h2 : (idAt s j == idAt s k) = false := h
        rw [e, beq_self_eq_true] at h2; exact absurd h2 (by decide)
      have he := hp.e j k hj hk h
      have hpa := Parent_ok (r := r) hs (idAt s j) (idAt s k)
      rw [he, if_pos rfl] at hpa
      refine VSt.go tb_ok false [] 200 rfl (by repeat (first | exact AllP.n | refine AllP.c (by first | assumption | rfl | omega | exact Nat.le_refl _ | (show 0 < _; omega) | (show 1 < _; omega) | (show 2 < _; omega) | (show 3 < _; omega) | (intro _ _; rfl) | (intro q hq; match q, hq with | 0, _ => rfl) | (unfold inR; (try simp only [Int.ofNat_eq_natCast]); omega)) ?_)) ?_
      first | refine VSt.pc rfl rfl rfl rfl rfl rfl rfl rfl (hpa) ?_ | refine VSt.pcD rfl rfl rfl rfl rfl rfl rfl rfl (hpa) ?_
      refine VSt.go tb_ok false [] 200 rfl (by repeat (first | exact AllP.n | refine AllP.c (by first | assumption | rfl | omega | exact Nat.le_refl _ | (show 0 < _; omega) | (show 1 < _; omega) | (show 2 < _; omega) | (show 3 < _; omega) | (intro _ _; rfl) | (intro q hq; match q, hq with | 0, _ => rfl) | (unfold inR; (try simp only [Int.ofNat_eq_natCast]); omega)) ?_)) ?_
      first | refine VSt.splitO 50 rfl (fun g0 => ?_) (fun g0 => ?_) | refine VSt.splitD 50 rfl (fun g0 => ?_) (fun g0 => ?_)
      · exact absurd g0 (by decide)
      refine VSt.go tb_ok false [] 200 rfl (by repeat (first | exact AllP.n | refine AllP.c (by first | assumption | rfl | omega | exact Nat.le_refl _ | (show 0 < _; omega) | (show 1 < _; omega) | (show 2 < _; omega) | (show 3 < _; omega) | (intro _ _; rfl) | (intro q hq; match q, hq with | 0, _ => rfl) | (unfold inR; (try simp only [Int.ofNat_eq_natCast]); omega)) ?_)) ?_
      first | refine VSt.splitO 52 rfl (fun g1 => ?_) (fun g1 => ?_) | refine VSt.splitD 52 rfl (fun g1 => ?_) (fun g1 => ?_)
      · have g1 : (l.getD k 0 == idAt s j) = true := g1
        have hno := hp.no j k hj hk h (by simpa using g1)
        refine VSt.go tb_ok false [] 200 rfl (by repeat (first | exact AllP.n | refine AllP.c (by first | assumption | rfl | omega | exact Nat.le_refl _ | (show 0 < _; omega) | (show 1 < _; omega) | (show 2 < _; omega) | (show 3 < _; omega) | (intro _ _; rfl) | (intro q hq; match q, hq with | 0, _ => rfl) | (unfold inR; (try simp only [Int.ofNat_eq_natCast]); omega)) ?_)) ?_
        first | refine VSt.splitO 57 rfl (fun g2 => ?_) (fun g2 => ?_) | refine VSt.splitD 57 rfl (fun g2 => ?_) (fun g2 => ?_)
        · have g2 : (parA s (idAt s j) (idAt s k) == 0) = true := g2
          exact absurd (by simpa using g2) hno
        refine VSt.go tb_ok false [] 200 rfl (by repeat (first | exact AllP.n | refine AllP.c (by first | assumption | rfl | omega | exact Nat.le_refl _ | (show 0 < _; omega) | (show 1 < _; omega) | (show 2 < _; omega) | (show 3 < _; omega) | (intro _ _; rfl) | (intro q hq; match q, hq with | 0, _ => rfl) | (unfold inR; (try simp only [Int.ofNat_eq_natCast]); omega)) ?_)) ?_
        first | refine VSt.splitO 60 rfl (fun g3 => ?_) (fun g3 => ?_) | refine VSt.splitD 60 rfl (fun g3 => ?_) (fun g3 => ?_)
        · have g3 : (!(l.getD k 0 == idAt s j)) = true := g3
          rw [g1] at g3; exact absurd g3 (by decide)
        refine VSt.go tb_ok false [] 200 rfl (by repeat (first | exact AllP.n | refine AllP.c (by first | assumption | rfl | omega | exact Nat.le_refl _ | (show 0 < _; omega) | (show 1 < _; omega) | (show 2 < _; omega) | (show 3 < _; omega) | (intro _ _; rfl) | (intro q hq; match q, hq with | 0, _ => rfl) | (unfold inR; (try simp only [Int.ofNat_eq_natCast]); omega)) ?_)) ?_
        exact ⟨by (refine Vw.drop (by repeat (first | exact wf_nil | refine wf_back rfl rfl rfl ?_ | refine wf_cons rfl (by assumption) (ren_only _ (by assumption)) ?_))), trivial⟩
      · have g1 : (l.getD k 0 == idAt s j) = false := g1
        have hyes := hp.yes j k hj hk h (by simpa using g1)
        refine VSt.go tb_ok false [] 200 rfl (by repeat (first | exact AllP.n | refine AllP.c (by first | assumption | rfl | omega | exact Nat.le_refl _ | (show 0 < _; omega) | (show 1 < _; omega) | (show 2 < _; omega) | (show 3 < _; omega) | (intro _ _; rfl) | (intro q hq; match q, hq with | 0, _ => rfl) | (unfold inR; (try simp only [Int.ofNat_eq_natCast]); omega)) ?_)) ?_
        first | refine VSt.splitO 60 rfl (fun g3 => ?_) (fun g3 => ?_) | refine VSt.splitD 60 rfl (fun g3 => ?_) (fun g3 => ?_)
        · refine VSt.go tb_ok false [] 200 rfl (by repeat (first | exact AllP.n | refine AllP.c (by first | assumption | rfl | omega | exact Nat.le_refl _ | (show 0 < _; omega) | (show 1 < _; omega) | (show 2 < _; omega) | (show 3 < _; omega) | (intro _ _; rfl) | (intro q hq; match q, hq with | 0, _ => rfl) | (unfold inR; (try simp only [Int.ofNat_eq_natCast]); omega)) ?_)) ?_
          refine VSt.cond rfl (fun g4 => ?_) (fun _ => ?_)
          · have g4 : (parA s (idAt s j) (idAt s k) == 1) = true := g4
            exact absurd (by simpa using g4) hyes
          refine VSt.go tb_ok false [] 200 rfl (by repeat (first | exact AllP.n | refine AllP.c (by first | assumption | rfl | omega | exact Nat.le_refl _ | (show 0 < _; omega) | (show 1 < _; omega) | (show 2 < _; omega) | (show 3 < _; omega) | (intro _ _; rfl) | (intro q hq; match q, hq with | 0, _ => rfl) | (unfold inR; (try simp only [Int.ofNat_eq_natCast]); omega)) ?_)) ?_
          exact ⟨by (refine Vw.drop (by repeat (first | exact wf_nil | refine wf_back rfl rfl rfl ?_ | refine wf_cons rfl (by assumption) (ren_only _ (by assumption)) ?_))), trivial⟩
        · have g3 : (!(l.getD k 0 == idAt s j)) = false := g3
          rw [g1] at g3; exact absurd g3 (by decide)
    · refine VSt.go tb_ok false [] 200 rfl (by repeat (first | exact AllP.n | refine AllP.c (by first | assumption | rfl | omega | exact Nat.le_refl _ | (show 0 < _; omega) | (show 1 < _; omega) | (show 2 < _; omega) | (show 3 < _; omega) | (intro _ _; rfl) | (intro q hq; match q, hq with | 0, _ => rfl) | (unfold inR; (try simp only [Int.ofNat_eq_natCast]); omega)) ?_)) ?_
      exact ⟨by (refine Vw.drop (by repeat (first | exact wf_nil | refine wf_back rfl rfl rfl ?_ | refine wf_cons rfl (by assumption) (ren_only _ (by assumption)) ?_))), trivial⟩
  · refine VSt.go tb_ok false [] 200 rfl (by repeat (first | exact AllP.n | refine AllP.c (by first | assumption | rfl | omega | exact Nat.le_refl _ | (show 0 < _; omega) | (show 1 < _; omega) | (show 2 < _; omega) | (show 3 < _; omega) | (intro _ _; rfl) | (intro q hq; match q, hq with | 0, _ => rfl) | (unfold inR; (try simp only [Int.ofNat_eq_natCast]); omega)) ?_)) ?_
    exact EndsP.mk rfl rfl rfl rfl
end Go.Proofs.Ytncpeobcgmkkbaa
/- Walks: the law of what is agreed on. -/
set_option maxRecDepth 100000
namespace Go.Proofs.Ytncpeobcgmkkbaa
variable {r : Tr (List Value × TypeId)}
theorem ped_ids {s : Stem} (hv : s.Valid) {l : List Int} (hp : isPed s l) {k : Nat} (hk : k < s.copies.length) : l.getD k 0 = idOf s (parF s l k) := by
  have hb := hp.1.2 k hk
  by_cases h0 : l.getD k 0 = 0
  · rw [h0]
    have : parF s l k < 0 := by unfold parF; rw [h0]; exact place_zero hv
    exact ((idOf_zero hv (place_lt s _)).2 this).symm
  · have h1 : ¬ parF s l k < 0 := by
      intro h
      unfold badP at hb
      rw [show (!(l.getD k 0 == 0)) = true by simpa using h0, decide_eq_true h, Bool.true_or, Bool.and_true] at hb
      exact absurd hb (by decide)
    have h2 := (place_id (s := s) (a := l.getD k 0) (by unfold parF at h1; omega)).2
    unfold idOf
    rw [decide_eq_false h1]
    exact h2.symm
/-- A pedigree that costs as little as may be is one of those that were found. -/
theorem ped_least {s : Stem} (hv : s.Valid) {l : List Int} (hp : isPed s l) (hc : costP s (parF s l) s.copies.length = (searchS s).cost) : ∃ q, q < leastN s ∧ ∀ j, j < s.copies.length → leastAt s q j = parF s l j := by
  have ht := isPed_tree hv hp
  obtain ⟨_, _, h3⟩ := (search_does hv).2 _ ht
  obtain ⟨p, h4, h5⟩ := h3 hc
  obtain ⟨q, h6, h7⟩ := List.mem_iff_getElem.1 h4
  refine ⟨q, h6, fun j hj => ?_⟩
  unfold leastAt
  rw [getD_get h6, h7]; exact h5 j hj
theorem words_mem {s : Stem} (hv : s.Valid) {x : Nat} {w : Int} : w ∈ wordsL s x ↔ ∃ q i, q < leastN s ∧ i < s.copies.length ∧ leastAt s q i < 0 ∧ w = wd s i x := by
  unfold wordsL
  rw [setL_mem]
  refine ⟨fun ⟨k, h1, h2⟩ => ?_, fun ⟨q, i, h1, h2, h3, h4⟩ => ?_⟩
  · have h : (rootsL s).getD k 0 ∈ rootsL s := by rw [getD_get h1]; exact List.getElem_mem h1
    obtain ⟨q, i, h3, h4, h5, h6⟩ := (roots_mem hv).1 h
    refine ⟨q, i, h3, h4, h6, ?_⟩
    rw [← h2, h5]; rfl
  · have h : Int.ofNat i ∈ rootsL s := (roots_mem hv).2 ⟨q, i, h1, h2, rfl, h3⟩
    obtain ⟨k, h5, h6⟩ := List.mem_iff_getElem.1 h
    refine ⟨k, h5, ?_⟩
    rw [getD_get h5, h6, h4]; rfl
theorem text_root {s : Stem} (hv : s.Valid) {q i x : Nat} (hq : q < leastN s) (hi : i < s.copies.length) (h : leastAt s q i < 0) (ht : 0 ≤ textF s x) : wd s i x = textF s x := by
  have hm := (words_mem hv (x := x)).2 ⟨q, i, hq, hi, h, rfl⟩
  unfold textF at ht ⊢
  cases hb : Int.ofNat (wordsL s x).length == 1 with
  | false => rw [hb] at ht; exact absurd (show (0 : Int) ≤ -1 from ht) (by decide)
  | true =>
    have hl : (wordsL s x).length = 1 := by
      have h2 : Int.ofNat (wordsL s x).length = 1 := by simpa using hb
      exact Int.ofNat_inj.1 h2
    match hw : wordsL s x, hl with
    | [y], _ =>
      rw [hw] at hm
      show wd s i x = y
      simpa using hm
theorem text_sign {s : Stem} (hv : s.Valid) {x : Nat} (hx : x < placesN s) : (Int.ofNat (wordsL s x).length == 1) = decide (0 ≤ textF s x) := by
  unfold textF
  cases hb : Int.ofNat (wordsL s x).length == 1 with
  | false => rfl
  | true =>
    have hl : (wordsL s x).length = 1 := by
      have h2 : Int.ofNat (wordsL s x).length = 1 := by simpa using hb
      exact Int.ofNat_inj.1 h2
    have hm : (wordsL s x).getD 0 0 ∈ wordsL s x := by rw [getD_get (by omega)]; exact List.getElem_mem _
    obtain ⟨q, i, _, h2, _, h4⟩ := (words_mem hv).1 hm
    have hp0 : placesN s = (s.copies.getD 0 default).words.length := if_neg (by omega)
    have hw := hv.words h2
    have := (hv.wd h2 (k := x) (by omega)).1
    symm
    show decide (0 ≤ (wordsL s x).getD 0 0) = true
    rw [h4]
    exact decide_eq_true this
theorem rootI_eq {s : Stem} (hv : s.Valid) {l : List Int} (hp : isPed s l) {i : Nat} (hi : i < s.copies.length) (h : parF s l i < 0) (ho : ∀ k, k < s.copies.length → k ≠ i → 0 ≤ parF s l k) : rootI s l = idAt s i := by
  have ht := isPed_tree hv hp
  unfold rootI
  rw [firstN_some (k := i) (by rw [hp.1.1]; exact hi) ?_ ?_]
  · rw [ped_ids hv hp hi, (idOf_zero hv (ht.part.lt i hi)).2 h, decide_eq_true hi]; rfl
  · intro k hk
    have h1 := ho k (by omega) (by omega)
    rw [ped_ids hv hp (by omega)]
    have : idOf s (parF s l k) ≠ 0 := fun e => by
      have := (idOf_zero hv (ht.part.lt k (by omega))).1 e
      omega
    rw [beq_false_of_ne this]; rfl
theorem root_listed {s : Stem} (hv : s.Valid) {q i : Nat} (hq : q < leastN s) (hi : i < s.copies.length) (h : leastAt s q i < 0) : ((rootIds s).any fun y => y == idAt s i) = true := by
  rw [List.any_eq_true]
  refine ⟨idAt s i, ?_, beq_self_eq_true _⟩
  unfold rootIds
  rw [List.mem_map]
  exact ⟨Int.ofNat i, (roots_mem hv).2 ⟨q, i, hq, hi, rfl, h⟩, rfl⟩
theorem two_zero {s : Stem} (hv : s.Valid) (hck : ckStem s = 0) {j k : Nat} (hj : j < s.copies.length) (hk : k < s.copies.length) (h : j ≠ k) : (twoM s (idAt s j) (idAt s k)).2.2 = 0 := by
  unfold twoM
  rw [if_pos hck, place_at hv hj, place_at hv hk, if_neg]
  rw [decide_eq_false (by simp only [Int.ofNat_eq_natCast]; omega), decide_eq_false (by simp only [Int.ofNat_eq_natCast]; omega), Bool.false_or, Bool.false_or, beq_false_of_ne (show Int.ofNat j ≠ Int.ofNat k from fun e => h (Int.ofNat_inj.1 e))]
  decide
theorem par_ok {s : Stem} (hv : s.Valid) (hck : ckStem s = 0) (hm : 0 < leastN s) {l : List Int} (hp : isPed s l) {q : Nat} (hq : q < leastN s) (he : ∀ j, j < s.copies.length → leastAt s q j = parF s l j) : ParOk s l := by
  refine ⟨fun j k hj hk h => ?_, fun j k hj hk h hl => ?_, fun j k hj hk h hl => ?_⟩
  · unfold parE
    rw [if_pos (two_zero hv hck hj hk h), if_neg (by omega)]
  · have hc := cntP_pos (s := s) (a := idAt s j) (j := k) hq (by rw [he k hk, ← ped_ids hv hp hk]; exact hl)
    unfold parA
    rw [place_at hv hk]
    show (if cntP s (idAt s j) k (leastN s) = 0 then (0 : Int) else _) ≠ 0
    rw [if_neg (by omega)]
    split <;> decide
  · have hc := cntP_all (s := s) (a := idAt s j) (j := k) hq (by rw [he k hk, ← ped_ids hv hp hk]; exact hl)
    unfold parA
    rw [place_at hv hk]
    show (if cntP s (idAt s j) k (leastN s) = 0 then (0 : Int) else if cntP s (idAt s j) k (leastN s) = leastN s then 1 else 2) ≠ 1
    split
    · decide
    · rw [if_neg (by omega)]; decide
theorem show_zero {s : Stem} (hv : s.Valid) (hck : ckStem s = 0) (hm : 0 < leastN s) {k : Nat} (hk : k < (rootIds s).length) : showE s ((rootIds s).getD k 0) = 0 := by
  rw [rootIds_len] at hk
  rw [rootIds_at s hk]
  have h : (rootsL s).getD k 0 ∈ rootsL s := by rw [getD_get hk]; exact List.getElem_mem hk
  obtain ⟨q, i, h1, h2, h3, h4⟩ := (roots_mem hv).1 h
  rw [h3]
  show showE s (idAt s i) = 0
  unfold showE
  rw [if_pos hck, place_at hv h2, if_neg (by simp only [Int.ofNat_eq_natCast]; omega), if_neg (by omega)]
  show (match showQ s i with | some _ => (0 : Int) | none => 3) = 0
  have hr : isRootB s i q = true := by
    unfold isRootB
    rw [(idOf_zero hv ((least_tree hv h1).part.lt i h2)).2 h4]; rfl
  obtain ⟨x, hx⟩ := firstN_ex h1 hr
  rw [show showQ s i = some x from hx]
theorem words_zero {s : Stem} (hck : ckStem s = 0) (hm : 0 < leastN s) {x : Nat} (hx : x < placesN s) : wordsE s (Int.ofNat x) = 0 := by
  unfold wordsE
  rw [if_pos hck, if_pos, if_neg (by omega)]
  rw [wth_iff]
  simp only [Int.ofNat_eq_natCast]
  omega
end Go.Proofs.Ytncpeobcgmkkbaa
/- Walks: the law of what is agreed on. -/
set_option maxRecDepth 100000
namespace Go.Proofs.Ytncpeobcgmkkbaa
variable {r : Tr (List Value × TypeId)}
def exF : Nat → Nat
  | 0 => 2
  | _ + 1 => 0
theorem exF_or (k : Nat) : exF k = 2 ∨ exF k = 0 := by
  cases k with
  | zero => exact .inl rfl
  | succ k => exact .inr rfl
/-- The lists that are looked at: the one given, and those that are shown. -/
def ql (s : Stem) (l : List Int) (k : Nat) : List Int := if k = 0 then l else showL s ((rootIds s).getD (k - 1) 0)
def qb (b : Bool) (k : Nat) : Bool := if k = 0 then b else false
def qF (s : Stem) (b : Bool) (l : List Int) : Nat → List PV := fun k => [eInts (qb b k) (ql s l k)]
theorem stemAgreed_law {s : Stem} {b : Bool} {l : List Int} (hs : s.Ok) (hf : s.Flags) (hl : l.length < 9223372036854775808) : VP (sE r) 4 [.agg ((eStem s).map .p), .p (eInts b l)] (bv true) := by
  have hfe := Fewest_ok (r := r) hs
  have hag := Agreed_ok (r := r) hs
  have hro := Roots_ok (r := r) hs
  refine VP.of (fn := Try.f4) tb_ok rfl (by kernel_rfl) rfl rfl rfl ?_
  refine VSt.go tb_ok false [] 200 rfl (by repeat (first | exact AllP.n | refine AllP.c (by first | assumption | rfl | omega | exact Nat.le_refl _ | (show 0 < _; omega) | (show 1 < _; omega) | (show 2 < _; omega) | (show 3 < _; omega) | (intro _ _; rfl) | (intro q hq; match q, hq with | 0, _ => rfl) | (unfold inR; (try simp only [Int.ofNat_eq_natCast]); omega)) ?_)) ?_
  first | refine VSt.pc rfl rfl rfl rfl rfl rfl rfl rfl ((rCheck_ok s hs)) ?_ | refine VSt.pcD rfl rfl rfl rfl rfl rfl rfl rfl ((rCheck_ok s hs)) ?_
  refine VSt.go tb_ok false [] 200 rfl (by repeat (first | exact AllP.n | refine AllP.c (by first | assumption | rfl | omega | exact Nat.le_refl _ | (show 0 < _; omega) | (show 1 < _; omega) | (show 2 < _; omega) | (show 3 < _; omega) | (intro _ _; rfl) | (intro q hq; match q, hq with | 0, _ => rfl) | (unfold inR; (try simp only [Int.ofNat_eq_natCast]); omega)) ?_)) ?_
  refine VSt.cond rfl (fun h1 => ?_) (fun h1 => ?_)
  · have h1 : (!(ckStem s == 0)) = true := h1
    have h0 : ckStem s = 42 := (ckStem_or s).resolve_left (by simpa using h1)
    refine VSt.go tb_ok false [] 200 rfl (by repeat (first | exact AllP.n | refine AllP.c (by first | assumption | rfl | omega | exact Nat.le_refl _ | (show 0 < _; omega) | (show 1 < _; omega) | (show 2 < _; omega) | (show 3 < _; omega) | (intro _ _; rfl) | (intro q hq; match q, hq with | 0, _ => rfl) | (unfold inR; (try simp only [Int.ofNat_eq_natCast]); omega)) ?_)) ?_
    first | refine VSt.pc rfl rfl rfl rfl rfl rfl rfl rfl ((check_ok s hs)) ?_ | refine VSt.pcD rfl rfl rfl rfl rfl rfl rfl rfl ((check_ok s hs)) ?_
    refine VSt.go tb_ok false [] 200 rfl (by repeat (first | exact AllP.n | refine AllP.c (by first | assumption | rfl | omega | exact Nat.le_refl _ | (show 0 < _; omega) | (show 1 < _; omega) | (show 2 < _; omega) | (show 3 < _; omega) | (intro _ _; rfl) | (intro q hq; match q, hq with | 0, _ => rfl) | (unfold inR; (try simp only [Int.ofNat_eq_natCast]); omega)) ?_)) ?_
    first | refine VSt.splitO 30 rfl (fun h2 => ?_) (fun h2 => ?_) | refine VSt.splitD 30 rfl (fun h2 => ?_) (fun h2 => ?_)
    · refine VSt.go tb_ok false [] 200 rfl (by repeat (first | exact AllP.n | refine AllP.c (by first | assumption | rfl | omega | exact Nat.le_refl _ | (show 0 < _; omega) | (show 1 < _; omega) | (show 2 < _; omega) | (show 3 < _; omega) | (intro _ _; rfl) | (intro q hq; match q, hq with | 0, _ => rfl) | (unfold inR; (try simp only [Int.ofNat_eq_natCast]); omega)) ?_)) ?_
      first | refine VSt.pc rfl rfl rfl rfl rfl rfl rfl rfl ((VP.hook rfl)) ?_ | refine VSt.pcD rfl rfl rfl rfl rfl rfl rfl rfl ((VP.hook rfl)) ?_
      refine VSt.go tb_ok false [] 200 rfl (by repeat (first | exact AllP.n | refine AllP.c (by first | assumption | rfl | omega | exact Nat.le_refl _ | (show 0 < _; omega) | (show 1 < _; omega) | (show 2 < _; omega) | (show 3 < _; omega) | (intro _ _; rfl) | (intro q hq; match q, hq with | 0, _ => rfl) | (unfold inR; (try simp only [Int.ofNat_eq_natCast]); omega)) ?_)) ?_
      exact EndsP.mk rfl rfl rfl rfl
    · have h2 : (ckStem s == 42) = false := h2
      rw [h0] at h2
      exact absurd h2 (by decide)
  have h0 : ckStem s = 0 := by
    have h1 : (!(ckStem s == 0)) = false := h1
    simpa using h1
  have hv := valid_of h0
  have hn : s.copies.length ≤ 7 := hv.c
  refine VSt.go tb_ok false [] 200 rfl (by repeat (first | exact AllP.n | refine AllP.c (by first | assumption | rfl | omega | exact Nat.le_refl _ | (show 0 < _; omega) | (show 1 < _; omega) | (show 2 < _; omega) | (show 3 < _; omega) | (intro _ _; rfl) | (intro q hq; match q, hq with | 0, _ => rfl) | (unfold inR; (try simp only [Int.ofNat_eq_natCast]); omega)) ?_)) ?_
  by_cases hE : studE s = 0
  · rw [if_pos hE, hE] at hfe hag hro
    have hm := (studE_zero hE).2
    have hc := least_some hv hm
    have hrp : 0 < (rootsL s).length := setL_pos hm
    have hrl : (rootsL s).length ≤ 1000000 := Nat.le_trans (setL_len _ _) (least_many hv)
    have hpn : placesN s = (s.copies.getD 0 default).words.length := if_neg (by omega)
    first | refine VSt.pc rfl rfl rfl rfl rfl rfl rfl rfl (hfe) ?_ | refine VSt.pcD rfl rfl rfl rfl rfl rfl rfl rfl (hfe) ?_
    refine VSt.go tb_ok false [] 200 rfl (by repeat (first | exact AllP.n | refine AllP.c (by first | assumption | rfl | omega | exact Nat.le_refl _ | (show 0 < _; omega) | (show 1 < _; omega) | (show 2 < _; omega) | (show 3 < _; omega) | (intro _ _; rfl) | (intro q hq; match q, hq with | 0, _ => rfl) | (unfold inR; (try simp only [Int.ofNat_eq_natCast]); omega)) ?_)) ?_
    refine VSt.cond rfl (fun h => absurd h (by decide)) (fun _ => ?_)
    refine VSt.go tb_ok false [] 200 rfl (by repeat (first | exact AllP.n | refine AllP.c (by first | assumption | rfl | omega | exact Nat.le_refl _ | (show 0 < _; omega) | (show 1 < _; omega) | (show 2 < _; omega) | (show 3 < _; omega) | (intro _ _; rfl) | (intro q hq; match q, hq with | 0, _ => rfl) | (unfold inR; (try simp only [Int.ofNat_eq_natCast]); omega)) ?_)) ?_
    first | refine VSt.pc rfl rfl rfl rfl rfl rfl rfl rfl (hag) ?_ | refine VSt.pcD rfl rfl rfl rfl rfl rfl rfl rfl (hag) ?_
    refine VSt.go tb_ok false [] 200 rfl (by repeat (first | exact AllP.n | refine AllP.c (by first | assumption | rfl | omega | exact Nat.le_refl _ | (show 0 < _; omega) | (show 1 < _; omega) | (show 2 < _; omega) | (show 3 < _; omega) | (intro _ _; rfl) | (intro q hq; match q, hq with | 0, _ => rfl) | (unfold inR; (try simp only [Int.ofNat_eq_natCast]); omega)) ?_)) ?_
    first | refine VSt.pc rfl rfl rfl rfl rfl rfl rfl rfl (hro) ?_ | refine VSt.pcD rfl rfl rfl rfl rfl rfl rfl rfl (hro) ?_
    refine VSt.go tb_ok false [] 200 rfl (by repeat (first | exact AllP.n | refine AllP.c (by first | assumption | rfl | omega | exact Nat.le_refl _ | (show 0 < _; omega) | (show 1 < _; omega) | (show 2 < _; omega) | (show 3 < _; omega) | (intro _ _; rfl) | (intro q hq; match q, hq with | 0, _ => rfl) | (unfold inR; (try simp only [Int.ofNat_eq_natCast]); omega)) ?_)) ?_
    first | refine VSt.splitO 57 rfl (fun g1 => ?_) (fun g1 => ?_) | refine VSt.splitD 57 rfl (fun g1 => ?_) (fun g1 => ?_)
    · exact absurd g1 (by decide)
    refine VSt.go tb_ok false [] 200 rfl (by repeat (first | exact AllP.n | refine AllP.c (by first | assumption | rfl | omega | exact Nat.le_refl _ | (show 0 < _; omega) | (show 1 < _; omega) | (show 2 < _; omega) | (show 3 < _; omega) | (intro _ _; rfl) | (intro q hq; match q, hq with | 0, _ => rfl) | (unfold inR; (try simp only [Int.ofNat_eq_natCast]); omega)) ?_)) ?_
    first | refine VSt.splitO 61 rfl (fun g2 => ?_) (fun g2 => ?_) | refine VSt.splitD 61 rfl (fun g2 => ?_) (fun g2 => ?_)
    · exact absurd g2 (by decide)
    refine VSt.go tb_ok false [] 200 rfl (by repeat (first | exact AllP.n | refine AllP.c (by first | assumption | rfl | omega | exact Nat.le_refl _ | (show 0 < _; omega) | (show 1 < _; omega) | (show 2 < _; omega) | (show 3 < _; omega) | (intro _ _; rfl) | (intro q hq; match q, hq with | 0, _ => rfl) | (unfold inR; (try simp only [Int.ofNat_eq_natCast]); omega)) ?_)) ?_
    refine VSt.cond rfl (fun g3 => ?_) (fun _ => ?_)
    · have g3 : (!(Int.ofNat (textL s).length == Int.ofNat (s.copies.getD 0 default).words.length)) = true := g3
      rw [textL_len, hpn, beq_self_eq_true] at g3
      exact absurd g3 (by decide)
    refine VSt.go tb_ok false [73] 200 rfl (by repeat (first | exact AllP.n | refine AllP.c (by first | assumption | rfl | omega | exact Nat.le_refl _ | (show 0 < _; omega) | (show 1 < _; omega) | (show 2 < _; omega) | (show 3 < _; omega) | (intro _ _; rfl) | (intro q hq; match q, hq with | 0, _ => rfl) | (unfold inR; (try simp only [Int.ofNat_eq_natCast]); omega)) ?_)) ?_
    refine VSt.go tb_ok true [11] 200 rfl (by repeat (first | exact AllP.n | refine AllP.c (by first | assumption | rfl | omega | exact Nat.le_refl _ | (show 0 < _; omega) | (show 1 < _; omega) | (show 2 < _; omega) | (show 3 < _; omega) | (intro _ _; rfl) | (intro q hq; match q, hq with | 0, _ => rfl) | (unfold inR; (try simp only [Int.ofNat_eq_natCast]); omega)) ?_)) ?_
    refine VSt.go tb_ok false [] 200 rfl (by repeat (first | exact AllP.n | refine AllP.c (by first | assumption | rfl | omega | exact Nat.le_refl _ | (show 0 < _; omega) | (show 1 < _; omega) | (show 2 < _; omega) | (show 3 < _; omega) | (intro _ _; rfl) | (intro q hq; match q, hq with | 0, _ => rfl) | (unfold inR; (try simp only [Int.ofNat_eq_natCast]); omega)) ?_)) ?_
    refine VSt.viewC (Vw.freezeC 0 (eStem s) rfl rfl) ?_
    first | refine VSt.viewC (Vw.kp [2, 5, 7, 9, 11, 74, 75, 76] [(0, 1)] rfl) ?_ | refine VSt.viewO (Vw.kp [2, 5, 7, 9, 11, 74, 75, 76] [(0, 1)] rfl) ?_ | refine VSt.viewD (Vw.kp [2, 5, 7, 9, 11, 74, 75, 76] [(0, 1)] rfl) ?_
    have hq : ∀ k, (ql s l k).length < 9223372036854775808 := fun k => by
      unfold ql
      split
      · exact hl
      · unfold showL; rw [pedOf_len]; omega
    refine VSt.rangeT tb_ok (rootIds s).length (by rw [rootIds_len]; omega) [2, 5, 7, 9, 74] (fun k => [(11, .sl 0 1 0 (k + 1) (k + 1) (exF k))]) (fun k => [(0, .arr (k + 1) 1 (qF s b l) 28)]) (fun _ => True) rfl rfl rfl (fun _ => rfl) rfl rfl (u0_cons rfl (AImp.refl _) u0_nil) ⟨rfl, BImp.arr' rfl (fun k hk => by match k, hk with | 0, _ => rfl), trivial⟩ trivial (fun k hk _ => ?_) (fun _ => ?_)
    · have hsh := Show_ok (r := r) hs ((rootIds s).getD k 0)
      rw [show_zero hv h0 hm hk, if_pos rfl] at hsh
      have hk2 : k < 1000000 := by rw [rootIds_len] at hk; omega
      refine VSt.go tb_ok false [] 200 rfl (by repeat (first | exact AllP.n | refine AllP.c (by first | assumption | rfl | omega | exact Nat.le_refl _ | (show 0 < _; omega) | (show 1 < _; omega) | (show 2 < _; omega) | (show 3 < _; omega) | (intro _ _; rfl) | (intro q hq; match q, hq with | 0, _ => rfl) | (unfold inR; (try simp only [Int.ofNat_eq_natCast]); omega)) ?_)) ?_
      first | refine VSt.pc rfl rfl rfl rfl rfl rfl rfl rfl (hsh) ?_ | refine VSt.pcD rfl rfl rfl rfl rfl rfl rfl rfl (hsh) ?_
      refine VSt.go tb_ok false [] 200 rfl (by repeat (first | exact AllP.n | refine AllP.c (by first | assumption | rfl | omega | exact Nat.le_refl _ | (show 0 < _; omega) | (show 1 < _; omega) | (show 2 < _; omega) | (show 3 < _; omega) | (intro _ _; rfl) | (intro q hq; match q, hq with | 0, _ => rfl) | (unfold inR; (try simp only [Int.ofNat_eq_natCast]); omega)) ?_)) ?_
      refine VSt.cond rfl (fun h => absurd h (by decide)) (fun _ => ?_)
      refine Or.elim (exF_or k) (fun e => ?_) (fun e => ?_)
      all_goals
        rw [e]
        refine VSt.go tb_ok false [] 200 rfl (by repeat (first | exact AllP.n | refine AllP.c (by first | assumption | rfl | omega | exact Nat.le_refl _ | (show 0 < _; omega) | (show 1 < _; omega) | (show 2 < _; omega) | (show 3 < _; omega) | (intro _ _; rfl) | (intro q hq; match q, hq with | 0, _ => rfl) | (unfold inR; (try simp only [Int.ofNat_eq_natCast]); omega)) ?_)) ?_
        refine ⟨?_, trivial⟩
        refine Wk.vw (ps := [(0, 1)]) ⟨rfl, rfl, (by repeat (first | exact wf_nil | refine wf_back rfl rfl rfl ?_)), _, rfl, (⟨rfl, BImp.arr' rfl (fun q hq => ?_), trivial⟩)⟩
        by_cases hlt : q < k + 1
        · rw [blt_t hlt, Nat.zero_add]; rfl
        · have : q = k + 1 := by omega
          subst this
          rw [blt_f hlt, Nat.sub_self]; rfl
    · refine VSt.viewC (Vw.freeze 0 rfl rfl ⟨by rw [Nat.zero_add]; exact Nat.le_refl _, Nat.le_refl _, rfl⟩) ?_
      first | refine VSt.putO 11 (.p (.lst 28 false ((rootIds s).length + 1) (qF s b l))) rfl (AImp.lst fun k hk => by rw [Nat.zero_add]) ?_ | refine VSt.putD 11 (.p (.lst 28 false ((rootIds s).length + 1) (qF s b l))) rfl (AImp.lst fun k hk => by rw [Nat.zero_add]) ?_ | refine VSt.putC 11 (.p (.lst 28 false ((rootIds s).length + 1) (qF s b l))) rfl (AImp.lst fun k hk => by rw [Nat.zero_add]) ?_
      refine VSt.go tb_ok false [] 200 rfl (by repeat (first | exact AllP.n | refine AllP.c (by first | assumption | rfl | omega | exact Nat.le_refl _ | (show 0 < _; omega) | (show 1 < _; omega) | (show 2 < _; omega) | (show 3 < _; omega) | (intro _ _; rfl) | (intro q hq; match q, hq with | 0, _ => rfl) | (unfold inR; (try simp only [Int.ofNat_eq_natCast]); omega)) ?_)) ?_
      refine VSt.rangeT tb_ok ((rootIds s).length + 1) (by rw [rootIds_len]; omega) [2, 5, 7, 9, 93] (fun _ => []) (fun _ => []) (fun _ => True) rfl rfl rfl (fun _ => rfl) rfl rfl u0_nil trivial trivial (fun k hk _ => ?_) (fun _ => ?_)
      · have hco := CostOf_ok (r := r) (b := qb b k) hs (hq k)
        by_cases h3 : pedE s (ql s l k) = 0
        · have hp := (pedE_of h3).2
          rw [h3, show costOfI s (ql s l k) = _ from if_pos h3] at hco
          refine VSt.go tb_ok false [] 200 rfl (by repeat (first | exact AllP.n | refine AllP.c (by first | assumption | rfl | omega | exact Nat.le_refl _ | (show 0 < _; omega) | (show 1 < _; omega) | (show 2 < _; omega) | (show 3 < _; omega) | (intro _ _; rfl) | (intro q hq; match q, hq with | 0, _ => rfl) | (unfold inR; (try simp only [Int.ofNat_eq_natCast]); omega)) ?_)) ?_
          first | refine VSt.pc rfl rfl rfl rfl rfl rfl rfl rfl (hco) ?_ | refine VSt.pcD rfl rfl rfl rfl rfl rfl rfl rfl (hco) ?_
          refine VSt.go tb_ok false [] 200 rfl (by repeat (first | exact AllP.n | refine AllP.c (by first | assumption | rfl | omega | exact Nat.le_refl _ | (show 0 < _; omega) | (show 1 < _; omega) | (show 2 < _; omega) | (show 3 < _; omega) | (intro _ _; rfl) | (intro q hq; match q, hq with | 0, _ => rfl) | (unfold inR; (try simp only [Int.ofNat_eq_natCast]); omega)) ?_)) ?_
          first | refine VSt.splitO 107 rfl (fun g4 => ?_) (fun g4 => ?_) | refine VSt.splitD 107 rfl (fun g4 => ?_) (fun g4 => ?_)
          · exact absurd g4 (by decide)
          refine VSt.go tb_ok false [] 200 rfl (by repeat (first | exact AllP.n | refine AllP.c (by first | assumption | rfl | omega | exact Nat.le_refl _ | (show 0 < _; omega) | (show 1 < _; omega) | (show 2 < _; omega) | (show 3 < _; omega) | (intro _ _; rfl) | (intro q hq; match q, hq with | 0, _ => rfl) | (unfold inR; (try simp only [Int.ofNat_eq_natCast]); omega)) ?_)) ?_
          refine VSt.cond rfl (fun g5 => ?_) (fun g5 => ?_)
          · refine VSt.go tb_ok false [] 200 rfl (by repeat (first | exact AllP.n | refine AllP.c (by first | assumption | rfl | omega | exact Nat.le_refl _ | (show 0 < _; omega) | (show 1 < _; omega) | (show 2 < _; omega) | (show 3 < _; omega) | (intro _ _; rfl) | (intro q hq; match q, hq with | 0, _ => rfl) | (unfold inR; (try simp only [Int.ofNat_eq_natCast]); omega)) ?_)) ?_
            exact ⟨by (refine Vw.drop (by repeat (first | exact wf_nil | refine wf_back rfl rfl rfl ?_ | refine wf_cons rfl (by assumption) (ren_only _ (by assumption)) ?_))), trivial⟩
          have hcost : costP s (parF s (ql s l k)) s.copies.length = (searchS s).cost := by
            have g6 : (!(costP s (parF s (ql s l k)) s.copies.length == (searchS s).cost)) = false := g5
            simpa using g6
          refine Exists.elim (ped_least hv hp hcost) fun q hqq => ?_
          have hq1 := hqq.1
          have hq2 := hqq.2
          refine Exists.elim (tree_root (isPed_tree hv hp).root) fun i hi => ?_
          have hi1 := hi.1
          have hi2 := hi.2.1
          have hi3 := hi.2.2
          have hri := rootI_eq hv hp hi1 hi2 hi3
          have hqi : leastAt s q i < 0 := by rw [hq2 i hi1]; exact hi2
          have hli := Lists_ok (r := r) (b := false) (l := rootIds s) (rootI s (ql s l k)) (by rw [rootIds_len]; omega)
          rw [show ((rootIds s).any fun y => y == rootI s (ql s l k)) = true by rw [hri]; exact root_listed hv hq1 hi1 hqi] at hli
          have hagr := agrees_ok (r := r) (b := qb b k) hv (hq k) hi1 hri (fun x _ ht => text_root hv hq1 hi1 hqi ht)
          have hpar := parents_ok (r := r) (b := qb b k) hs hv hp.1.1 (par_ok hv h0 hm hp hq1 hq2)
          refine VSt.go tb_ok false [] 200 rfl (by repeat (first | exact AllP.n | refine AllP.c (by first | assumption | rfl | omega | exact Nat.le_refl _ | (show 0 < _; omega) | (show 1 < _; omega) | (show 2 < _; omega) | (show 3 < _; omega) | (intro _ _; rfl) | (intro q hq; match q, hq with | 0, _ => rfl) | (unfold inR; (try simp only [Int.ofNat_eq_natCast]); omega)) ?_)) ?_
          first | refine VSt.pc rfl rfl rfl rfl rfl rfl rfl rfl (hagr) ?_ | refine VSt.pcD rfl rfl rfl rfl rfl rfl rfl rfl (hagr) ?_
          refine VSt.go tb_ok false [] 200 rfl (by repeat (first | exact AllP.n | refine AllP.c (by first | assumption | rfl | omega | exact Nat.le_refl _ | (show 0 < _; omega) | (show 1 < _; omega) | (show 2 < _; omega) | (show 3 < _; omega) | (intro _ _; rfl) | (intro q hq; match q, hq with | 0, _ => rfl) | (unfold inR; (try simp only [Int.ofNat_eq_natCast]); omega)) ?_)) ?_
          first | refine VSt.splitO 117 rfl (fun g6 => ?_) (fun g6 => ?_) | refine VSt.splitD 117 rfl (fun g6 => ?_) (fun g6 => ?_)
          · exact absurd g6 (by decide)
          refine VSt.go tb_ok false [] 200 rfl (by repeat (first | exact AllP.n | refine AllP.c (by first | assumption | rfl | omega | exact Nat.le_refl _ | (show 0 < _; omega) | (show 1 < _; omega) | (show 2 < _; omega) | (show 3 < _; omega) | (intro _ _; rfl) | (intro q hq; match q, hq with | 0, _ => rfl) | (unfold inR; (try simp only [Int.ofNat_eq_natCast]); omega)) ?_)) ?_
          first | refine VSt.pc rfl rfl rfl rfl rfl rfl rfl rfl ((rootOf_ok (b := qb b k) (hq k))) ?_ | refine VSt.pcD rfl rfl rfl rfl rfl rfl rfl rfl ((rootOf_ok (b := qb b k) (hq k))) ?_
          refine VSt.go tb_ok false [] 200 rfl (by repeat (first | exact AllP.n | refine AllP.c (by first | assumption | rfl | omega | exact Nat.le_refl _ | (show 0 < _; omega) | (show 1 < _; omega) | (show 2 < _; omega) | (show 3 < _; omega) | (intro _ _; rfl) | (intro q hq; match q, hq with | 0, _ => rfl) | (unfold inR; (try simp only [Int.ofNat_eq_natCast]); omega)) ?_)) ?_
          first | refine VSt.pc rfl rfl rfl rfl rfl rfl rfl rfl (hli) ?_ | refine VSt.pcD rfl rfl rfl rfl rfl rfl rfl rfl (hli) ?_
          refine VSt.go tb_ok false [] 200 rfl (by repeat (first | exact AllP.n | refine AllP.c (by first | assumption | rfl | omega | exact Nat.le_refl _ | (show 0 < _; omega) | (show 1 < _; omega) | (show 2 < _; omega) | (show 3 < _; omega) | (intro _ _; rfl) | (intro q hq; match q, hq with | 0, _ => rfl) | (unfold inR; (try simp only [Int.ofNat_eq_natCast]); omega)) ?_)) ?_
          first | refine VSt.splitO 125 rfl (fun g7 => ?_) (fun g7 => ?_) | refine VSt.splitD 125 rfl (fun g7 => ?_) (fun g7 => ?_)
          · exact absurd g7 (by decide)
          refine VSt.go tb_ok false [] 200 rfl (by repeat (first | exact AllP.n | refine AllP.c (by first | assumption | rfl | omega | exact Nat.le_refl _ | (show 0 < _; omega) | (show 1 < _; omega) | (show 2 < _; omega) | (show 3 < _; omega) | (intro _ _; rfl) | (intro q hq; match q, hq with | 0, _ => rfl) | (unfold inR; (try simp only [Int.ofNat_eq_natCast]); omega)) ?_)) ?_
          first | refine VSt.pc rfl rfl rfl rfl rfl rfl rfl rfl (hpar) ?_ | refine VSt.pcD rfl rfl rfl rfl rfl rfl rfl rfl (hpar) ?_
          refine VSt.go tb_ok false [] 200 rfl (by repeat (first | exact AllP.n | refine AllP.c (by first | assumption | rfl | omega | exact Nat.le_refl _ | (show 0 < _; omega) | (show 1 < _; omega) | (show 2 < _; omega) | (show 3 < _; omega) | (intro _ _; rfl) | (intro q hq; match q, hq with | 0, _ => rfl) | (unfold inR; (try simp only [Int.ofNat_eq_natCast]); omega)) ?_)) ?_
          refine VSt.cond rfl (fun g8 => absurd g8 (by decide)) (fun _ => ?_)
          refine VSt.go tb_ok false [] 200 rfl (by repeat (first | exact AllP.n | refine AllP.c (by first | assumption | rfl | omega | exact Nat.le_refl _ | (show 0 < _; omega) | (show 1 < _; omega) | (show 2 < _; omega) | (show 3 < _; omega) | (intro _ _; rfl) | (intro q hq; match q, hq with | 0, _ => rfl) | (unfold inR; (try simp only [Int.ofNat_eq_natCast]); omega)) ?_)) ?_
          exact ⟨by (refine Vw.drop (by repeat (first | exact wf_nil | refine wf_back rfl rfl rfl ?_ | refine wf_cons rfl (by assumption) (ren_only _ (by assumption)) ?_))), trivial⟩
        · refine VSt.go tb_ok false [] 200 rfl (by repeat (first | exact AllP.n | refine AllP.c (by first | assumption | rfl | omega | exact Nat.le_refl _ | (show 0 < _; omega) | (show 1 < _; omega) | (show 2 < _; omega) | (show 3 < _; omega) | (intro _ _; rfl) | (intro q hq; match q, hq with | 0, _ => rfl) | (unfold inR; (try simp only [Int.ofNat_eq_natCast]); omega)) ?_)) ?_
          first | refine VSt.pc rfl rfl rfl rfl rfl rfl rfl rfl (hco) ?_ | refine VSt.pcD rfl rfl rfl rfl rfl rfl rfl rfl (hco) ?_
          refine VSt.go tb_ok false [] 200 rfl (by repeat (first | exact AllP.n | refine AllP.c (by first | assumption | rfl | omega | exact Nat.le_refl _ | (show 0 < _; omega) | (show 1 < _; omega) | (show 2 < _; omega) | (show 3 < _; omega) | (intro _ _; rfl) | (intro q hq; match q, hq with | 0, _ => rfl) | (unfold inR; (try simp only [Int.ofNat_eq_natCast]); omega)) ?_)) ?_
          first | refine VSt.splitO 107 rfl (fun g4 => ?_) (fun g4 => ?_) | refine VSt.splitD 107 rfl (fun g4 => ?_) (fun g4 => ?_)
          · refine VSt.go tb_ok false [] 200 rfl (by repeat (first | exact AllP.n | refine AllP.c (by first | assumption | rfl | omega | exact Nat.le_refl _ | (show 0 < _; omega) | (show 1 < _; omega) | (show 2 < _; omega) | (show 3 < _; omega) | (intro _ _; rfl) | (intro q hq; match q, hq with | 0, _ => rfl) | (unfold inR; (try simp only [Int.ofNat_eq_natCast]); omega)) ?_)) ?_
            exact ⟨by (refine Vw.drop (by repeat (first | exact wf_nil | refine wf_back rfl rfl rfl ?_ | refine wf_cons rfl (by assumption) (ren_only _ (by assumption)) ?_))), trivial⟩
          · have g5 : (!(pedE s (ql s l k) == 0)) = false := g4
            exact absurd (by simpa using g5) h3
      · refine VSt.go tb_ok false [] 200 rfl (by repeat (first | exact AllP.n | refine AllP.c (by first | assumption | rfl | omega | exact Nat.le_refl _ | (show 0 < _; omega) | (show 1 < _; omega) | (show 2 < _; omega) | (show 3 < _; omega) | (intro _ _; rfl) | (intro q hq; match q, hq with | 0, _ => rfl) | (unfold inR; (try simp only [Int.ofNat_eq_natCast]); omega)) ?_)) ?_
        refine VSt.rangeT tb_ok (textL s).length (by rw [textL_len, hpn]; have := (ckCopy_of (hv.copy hc)).2.1; omega) [2, 7, 132] (fun _ => []) (fun _ => []) (fun _ => True) rfl rfl rfl (fun _ => rfl) rfl rfl u0_nil trivial trivial (fun x hx _ => ?_) (fun _ => ?_)
        · have hx2 : x < placesN s := by rw [← textL_len]; exact hx
          have ht := textL_at s hx2
          have hwo := Words_ok (r := r) hs (Int.ofNat x)
          rw [words_zero h0 hm hx2, if_pos rfl] at hwo
          have hwp : 0 < (wordsL s x).length := setL_pos hrp
          have hsg := text_sign hv hx2
          refine VSt.go tb_ok false [] 200 rfl (by repeat (first | exact AllP.n | refine AllP.c (by first | assumption | rfl | omega | exact Nat.le_refl _ | (show 0 < _; omega) | (show 1 < _; omega) | (show 2 < _; omega) | (show 3 < _; omega) | (intro _ _; rfl) | (intro q hq; match q, hq with | 0, _ => rfl) | (unfold inR; (try simp only [Int.ofNat_eq_natCast]); omega)) ?_)) ?_
          first | refine VSt.pc rfl rfl rfl rfl rfl rfl rfl rfl (hwo) ?_ | refine VSt.pcD rfl rfl rfl rfl rfl rfl rfl rfl (hwo) ?_
          refine VSt.go tb_ok false [] 200 rfl (by repeat (first | exact AllP.n | refine AllP.c (by first | assumption | rfl | omega | exact Nat.le_refl _ | (show 0 < _; omega) | (show 1 < _; omega) | (show 2 < _; omega) | (show 3 < _; omega) | (intro _ _; rfl) | (intro q hq; match q, hq with | 0, _ => rfl) | (unfold inR; (try simp only [Int.ofNat_eq_natCast]); omega)) ?_)) ?_
          first | refine VSt.splitO 147 rfl (fun g4 => ?_) (fun g4 => ?_) | refine VSt.splitD 147 rfl (fun g4 => ?_) (fun g4 => ?_)
          · exact absurd g4 (by decide)
          refine VSt.go tb_ok false [] 200 rfl (by repeat (first | exact AllP.n | refine AllP.c (by first | assumption | rfl | omega | exact Nat.le_refl _ | (show 0 < _; omega) | (show 1 < _; omega) | (show 2 < _; omega) | (show 3 < _; omega) | (intro _ _; rfl) | (intro q hq; match q, hq with | 0, _ => rfl) | (unfold inR; (try simp only [Int.ofNat_eq_natCast]); omega)) ?_)) ?_
          first | refine VSt.splitO 152 rfl (fun g5 => ?_) (fun g5 => ?_) | refine VSt.splitD 152 rfl (fun g5 => ?_) (fun g5 => ?_)
          · have g6 : (Int.ofNat (wordsL s x).length == 0) = true := g5
            have g7 : Int.ofNat (wordsL s x).length = 0 := by simpa using g6
            simp only [Int.ofNat_eq_natCast] at g7
            exact absurd g7 (by omega)
          refine VSt.go tb_ok false [] 200 rfl (by repeat (first | exact AllP.n | refine AllP.c (by first | assumption | rfl | omega | exact Nat.le_refl _ | (show 0 < _; omega) | (show 1 < _; omega) | (show 2 < _; omega) | (show 3 < _; omega) | (intro _ _; rfl) | (intro q hq; match q, hq with | 0, _ => rfl) | (unfold inR; (try simp only [Int.ofNat_eq_natCast]); omega)) ?_)) ?_
          first | refine VSt.splitO 160 rfl (fun g6 => ?_) (fun g6 => ?_) | refine VSt.splitD 160 rfl (fun g6 => ?_) (fun g6 => ?_)
          · have g7 : (!((Int.ofNat (wordsL s x).length == 1) == decide (0 ≤ (textL s).getD x 0))) = true := g6
            rw [hsg, ht, beq_self_eq_true] at g7
            exact absurd g7 (by decide)
          refine VSt.go tb_ok false [] 200 rfl (by repeat (first | exact AllP.n | refine AllP.c (by first | assumption | rfl | omega | exact Nat.le_refl _ | (show 0 < _; omega) | (show 1 < _; omega) | (show 2 < _; omega) | (show 3 < _; omega) | (intro _ _; rfl) | (intro q hq; match q, hq with | 0, _ => rfl) | (unfold inR; (try simp only [Int.ofNat_eq_natCast]); omega)) ?_)) ?_
          first | refine VSt.splitO 163 rfl (fun g7 => ?_) (fun g7 => ?_) | refine VSt.splitD 163 rfl (fun g7 => ?_) (fun g7 => ?_)
          · have g8 : decide (0 ≤ (textL s).getD x 0) = true := g7
            have g9 : textF s x = (wordsL s x).getD 0 0 := by
              rw [ht, ← hsg] at g8
              unfold textF
              rw [g8]; rfl
            have hwp2 : 0 < (wordsL s (Int.ofNat x).toNat).length := hwp
            refine VSt.go tb_ok false [] 200 rfl (by repeat (first | exact AllP.n | refine AllP.c (by first | assumption | rfl | omega | exact Nat.le_refl _ | (show 0 < _; omega) | (show 1 < _; omega) | (show 2 < _; omega) | (show 3 < _; omega) | (intro _ _; rfl) | (intro q hq; match q, hq with | 0, _ => rfl) | (unfold inR; (try simp only [Int.ofNat_eq_natCast]); omega)) ?_)) ?_
            refine VSt.cond rfl (fun g10 => ?_) (fun _ => ?_)
            · have g11 : (!((wordsL s x).getD 0 0 == (textL s).getD x 0)) = true := g10
              rw [ht, g9, beq_self_eq_true] at g11
              exact absurd g11 (by decide)
            refine VSt.go tb_ok false [] 200 rfl (by repeat (first | exact AllP.n | refine AllP.c (by first | assumption | rfl | omega | exact Nat.le_refl _ | (show 0 < _; omega) | (show 1 < _; omega) | (show 2 < _; omega) | (show 3 < _; omega) | (intro _ _; rfl) | (intro q hq; match q, hq with | 0, _ => rfl) | (unfold inR; (try simp only [Int.ofNat_eq_natCast]); omega)) ?_)) ?_
            exact ⟨by (refine Vw.drop (by repeat (first | exact wf_nil | refine wf_back rfl rfl rfl ?_ | refine wf_cons rfl (by assumption) (ren_only _ (by assumption)) ?_))), trivial⟩
          · refine VSt.go tb_ok false [] 200 rfl (by repeat (first | exact AllP.n | refine AllP.c (by first | assumption | rfl | omega | exact Nat.le_refl _ | (show 0 < _; omega) | (show 1 < _; omega) | (show 2 < _; omega) | (show 3 < _; omega) | (intro _ _; rfl) | (intro q hq; match q, hq with | 0, _ => rfl) | (unfold inR; (try simp only [Int.ofNat_eq_natCast]); omega)) ?_)) ?_
            exact ⟨by (refine Vw.drop (by repeat (first | exact wf_nil | refine wf_back rfl rfl rfl ?_ | refine wf_cons rfl (by assumption) (ren_only _ (by assumption)) ?_))), trivial⟩
        · refine VSt.go tb_ok false [] 200 rfl (by repeat (first | exact AllP.n | refine AllP.c (by first | assumption | rfl | omega | exact Nat.le_refl _ | (show 0 < _; omega) | (show 1 < _; omega) | (show 2 < _; omega) | (show 3 < _; omega) | (intro _ _; rfl) | (intro q hq; match q, hq with | 0, _ => rfl) | (unfold inR; (try simp only [Int.ofNat_eq_natCast]); omega)) ?_)) ?_
          first | refine VSt.pc rfl rfl rfl rfl rfl rfl rfl rfl ((VP.hook rfl)) ?_ | refine VSt.pcD rfl rfl rfl rfl rfl rfl rfl rfl ((VP.hook rfl)) ?_
          refine VSt.go tb_ok false [] 200 rfl (by repeat (first | exact AllP.n | refine AllP.c (by first | assumption | rfl | omega | exact Nat.le_refl _ | (show 0 < _; omega) | (show 1 < _; omega) | (show 2 < _; omega) | (show 3 < _; omega) | (intro _ _; rfl) | (intro q hq; match q, hq with | 0, _ => rfl) | (unfold inR; (try simp only [Int.ofNat_eq_natCast]); omega)) ?_)) ?_
          exact EndsP.mk rfl rfl rfl rfl
  · have h7 : studE s = 45 := (studE_or h0).resolve_left hE
    rw [h7, if_neg (by decide)] at hfe
    first | refine VSt.pc rfl rfl rfl rfl rfl rfl rfl rfl (hfe) ?_ | refine VSt.pcD rfl rfl rfl rfl rfl rfl rfl rfl (hfe) ?_
    refine VSt.go tb_ok false [] 200 rfl (by repeat (first | exact AllP.n | refine AllP.c (by first | assumption | rfl | omega | exact Nat.le_refl _ | (show 0 < _; omega) | (show 1 < _; omega) | (show 2 < _; omega) | (show 3 < _; omega) | (intro _ _; rfl) | (intro q hq; match q, hq with | 0, _ => rfl) | (unfold inR; (try simp only [Int.ofNat_eq_natCast]); omega)) ?_)) ?_
    refine VSt.cond rfl (fun _ => ?_) (fun h => absurd h (by decide))
    refine VSt.go tb_ok false [] 200 rfl (by repeat (first | exact AllP.n | refine AllP.c (by first | assumption | rfl | omega | exact Nat.le_refl _ | (show 0 < _; omega) | (show 1 < _; omega) | (show 2 < _; omega) | (show 3 < _; omega) | (intro _ _; rfl) | (intro q hq; match q, hq with | 0, _ => rfl) | (unfold inR; (try simp only [Int.ofNat_eq_natCast]); omega)) ?_)) ?_
    first | refine VSt.splitO 42 rfl (fun g1 => ?_) (fun g1 => ?_) | refine VSt.splitD 42 rfl (fun g1 => ?_) (fun g1 => ?_)
    · refine VSt.go tb_ok false [] 200 rfl (by repeat (first | exact AllP.n | refine AllP.c (by first | assumption | rfl | omega | exact Nat.le_refl _ | (show 0 < _; omega) | (show 1 < _; omega) | (show 2 < _; omega) | (show 3 < _; omega) | (intro _ _; rfl) | (intro q hq; match q, hq with | 0, _ => rfl) | (unfold inR; (try simp only [Int.ofNat_eq_natCast]); omega)) ?_)) ?_
      first | refine VSt.pc rfl rfl rfl rfl rfl rfl rfl rfl ((VP.hook rfl)) ?_ | refine VSt.pcD rfl rfl rfl rfl rfl rfl rfl rfl ((VP.hook rfl)) ?_
      refine VSt.go tb_ok false [] 200 rfl (by repeat (first | exact AllP.n | refine AllP.c (by first | assumption | rfl | omega | exact Nat.le_refl _ | (show 0 < _; omega) | (show 1 < _; omega) | (show 2 < _; omega) | (show 3 < _; omega) | (intro _ _; rfl) | (intro q hq; match q, hq with | 0, _ => rfl) | (unfold inR; (try simp only [Int.ofNat_eq_natCast]); omega)) ?_)) ?_
      exact EndsP.mk rfl rfl rfl rfl
    · exact absurd g1 (by decide)
end Go.Proofs.Ytncpeobcgmkkbaa
