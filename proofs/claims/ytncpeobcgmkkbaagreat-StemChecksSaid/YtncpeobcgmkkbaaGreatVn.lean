/- The program's StemChecks returns true for every stem and every ones, valid or not, without an exception and without changing its arguments: a part of the proof. -/
import Derived.Test.YtncpeobcgmkkbaaGreatVl
import Derived.Test.YtncpeobcgmkkbaaGreatVd
import Derived.Test.YtncpeobcgmkkbaaGreatVm
set_option linter.all false
/- Walks: copies of a stem, of one's own. -/
set_option maxRecDepth 100000
namespace Go.Proofs.YtncpeobcgmkkbaaGreat
variable {r : Tr (List Value × TypeId)}
theorem BImp.arr' {n n' sz : Nat} {f g : Nat → List PV} {t : TypeId} (e : n = n') (h : ∀ k, k < n → f k = g k) : BImp (.arr n sz f t) (.arr n' sz g t) := e ▸ BImp.arr h
def fNevers (l : List Never) : Nat → List PV := fun q => eNever (l.getD q default)
def fCopies (l : List Copy) : Nat → List PV := fun q => eCopy (l.getD q default)
theorem Vw.empAcc {E : Env} {d i sz sz' sz2 : Nat} {f g : Nat → List PV} {t t' : TypeId} : Vw E [] [(d, .sl i sz 0 0 0 2)] [(i, .arr 0 sz' f t)] [(d, .acc false i sz 0)] [(i, .acc 0 sz2 g t')] := by
  intro T S Z j hS hF
  obtain ⟨b, hj, vs, gg, h1, h2, h3, h4⟩ := hS.blk i (.arr 0 sz' f t) (by simp [bk]) id
  have hr := hS.unrom hj
  refine ⟨ZB Z b, fun _ => none, ⟨fun c hc => ?_, fun k c hk => (by cases hk), fun k k' c hk => (by cases hk), fun k hk => rfl, fun k vb hk => ?_, fun c q hc => ⟨(hS.rom c q hc).1, fun k hk => (by cases hk)⟩⟩, fun x a ha => ?_, ⟨Nat.le_refl _, fun _ _ _ => rfl, fun c hc => .inl hc, fun c hc => ?_, fun k c hk => (by cases hk), Nat.le_refl _, fun _ h _ _ => h⟩, fun k hk => (by cases hk)⟩
  · rcases hc with hc | rfl
    · exact hS.zlt c hc
    · exact (hS.jlt i _ hj).1
  · simp only [bk] at hk
    cases hb : Nat.beq i k with
    | true => rw [hb] at hk; cases hk; exact .inl rfl
    | false => rw [hb] at hk; cases hk
  · simp only [ak] at ha
    cases hb : Nat.beq d x with
    | true =>
      rw [hb] at ha
      cases ha
      obtain ⟨v, h5, h6⟩ := hF x (.sl i sz 0 0 0 2) (by simp only [ak]; rw [hb]; rfl)
      refine ⟨v, h5, ?_⟩
      cases h6 with
      | sl h =>
        rw [hj] at h; cases h
        exact .accE (.inr rfl) ((rdc_none hr).trans h1) (by simp)
    | false => rw [hb] at ha; cases ha
  · rcases hc with hc | rfl
    · exact .inl hc
    · exact .inr (.inr ⟨i, hj⟩)
theorem cloneNA_ok {b : Bool} {l : List Never} (hb : b = true → l = []) (hn : l.length < 1000000) : VC (sE r) [] 114 [.p (eNevers b l)] [] (fun a L => a = .acc b 0 2 l.length ∧ L = [(0, .acc l.length 2 (fNevers l) 57)]) := by
  refine VC.of (fn := Tryz.f114) tb_ok rfl (by kernel_rfl) rfl rfl ?_
  refine VSt.run tb_ok false [] 200 rfl trivial ?_
  refine VSt.cond rfl (fun h => ?_) (fun h => ?_)
  · refine VSt.viewC (Vw.adopt 0 2 (fNevers l) 57 rfl) ?_
    refine VSt.run tb_ok false [] 200 rfl trivial ?_
    have e := hb h
    subst e; subst h
    exact ⟨rfl, _, [(0, 0)], _, _, rfl, ⟨rfl, rfl, wf_imp rfl rfl AImp.nilAcc wf_nil, _, rfl, LImp.refl _⟩, rfl, rfl⟩
  · subst h
    cases hl : l with
    | nil =>
      subst hl
      refine VSt.run tb_ok true [2] 200 rfl (rfl) ?_
      refine VSt.viewO (Vw.trans (Wk.vw (ps := [(0, 0)]) (F0 := [(7, .sl 0 2 0 0 0 2)]) (L0 := [(0, .arr 0 2 (fun _ => []) 57)]) ⟨rfl, rfl, (by repeat (first | exact wf_nil | refine wf_back rfl rfl rfl ?_)), _, rfl, LImp.refl _⟩) (Vw.empAcc (sz2 := 2) (g := fNevers []) (t' := 57))) ?_
      refine VSt.run tb_ok false [] 200 rfl trivial ?_
      exact ⟨rfl, _, [(0, 0)], _, _, rfl, ⟨rfl, rfl, wf_imp rfl rfl (AImp.refl _) wf_nil, _, rfl, LImp.refl _⟩, rfl, rfl⟩
    | cons x m =>
      subst hl
      refine VSt.run tb_ok false [] 200 rfl (⟨Nat.succ_pos _, (by simp only [List.length_cons] at hn ⊢; omega), (fun q hq => rfl), rfl, rfl, (by simp only [List.length_cons]; omega), Nat.le_refl _⟩) ?_
      exact ⟨rfl, _, [(0, 1)], _, [(0, .acc (m.length + 1) 2 (fNevers (x :: m)) 57)], rfl, ⟨rfl, rfl, wf_imp rfl rfl (AImp.slAcc (Nat.succ_pos _) (Nat.zero_add _) (Nat.zero_add _)) wf_nil, _, rfl, ⟨rfl, BImp.arrAcc (Nat.zero_add _) fun q hq => rfl, trivial⟩⟩, rfl, rfl⟩
theorem app_copyF (l : List Copy) (k q : Nat) (hq : q < k + 1) : (bif Nat.blt q k then fCopies l q else ((eCopy (l.getD k default)).drop ((q - k) * 2)).take 2) = fCopies l q := by
  by_cases e : q < k
  · rw [show Nat.blt q k = true from by simpa using e]; rfl
  · have : q = k := by omega
    subst this
    rw [show Nat.blt q q = false from (by rw [← Bool.not_eq_true]; intro h; have := Nat.le_of_ble_eq_true h; omega)]
    simp [eCopy, fCopies]
theorem copied_ok {s : Stem} (hf : s.Flags) (hv : s.Valid) : VC (sE r) [] 83 [.agg ((eStem s).map .p)] [] (fun a L => a = .agg [.acc true 1 2 s.copies.length, iv s.costs.lose, iv s.costs.gain, iv s.costs.like, iv s.costs.turn, .acc s.nn 0 2 s.never.length] ∧
    L = [(1, .acc s.copies.length 2 (fCopies s.copies) 44), (0, .acc s.never.length 2 (fNevers s.never) 57)]) := by
  refine VC.of (fn := Tryz.f83) tb_ok rfl (by kernel_rfl) rfl rfl ?_
  refine VSt.run tb_ok false [] 200 rfl trivial ?_
  refine VSt.ccD [] rfl rfl rfl rfl rfl rfl rfl rfl rfl rfl rfl rfl (cloneNA_ok hf.n (by have := hv.n; omega)) ?_
  rintro a L' ⟨rfl, rfl⟩
  refine VSt.run tb_ok false [] 200 rfl trivial ?_
  refine VSt.viewC (Wk.vw (ps := [(3, 3), (2, 2), (1, 1)]) (F0 := [(15, nv 0), (14, nv s.copies.length), (2, .ref 1 0), (3, .ref 3 0), (13, .p (eCopies s.cn s.copies))])
    (L0 := [(3, .cells [.p (.lst 0 true 0 fun _ => []), iv s.costs.lose, iv s.costs.gain, iv s.costs.like, iv s.costs.turn, .acc s.nn 2 2 s.never.length] 27), (2, .acc s.never.length 2 (fNevers s.never) 57), (1, zeroS)])
    ⟨rfl, rfl, (by repeat (first | exact wf_nil | refine wf_back rfl rfl rfl ?_)), _, rfl, LImp.refl _⟩) ?_
  refine VSt.viewC (Vw.adopt 4 2 (fCopies s.copies) 44 rfl) ?_
  refine VSt.rangeF tb_ok s.copies.length (by have := hv.c; omega) (fun _ => [(2, .ref 1 0), (3, .ref 3 0), (13, .p (eCopies s.cn s.copies))])
    (fun k => [(4, .acc k 2 (fCopies s.copies) 44), (3, .cells [.acc true 4 2 k, iv s.costs.lose, iv s.costs.gain, iv s.costs.like, iv s.costs.turn, .acc s.nn 2 2 s.never.length] 27), (2, .acc s.never.length 2 (fNevers s.never) 57), (1, zeroS)])
    (fun _ => True) rfl rfl (fun _ => rfl) ?_ trivial (fun k hk hp => ?_) (fun hp => ?_)
  · refine Vw.imp ⟨rfl, BImp.refl _, rfl, BImp.cells ⟨AImp.nilAcc, AImp.refl _, AImp.refl _, AImp.refl _, AImp.refl _, AImp.refl _, trivial⟩, rfl, BImp.refl _, rfl, BImp.refl _, trivial⟩
  · refine VSt.run tb_ok false [] 200 rfl (⟨hk, rfl⟩) ?_
    first | refine VSt.pc rfl rfl rfl rfl rfl rfl rfl rfl ((cloneInt_ok (b := (s.copies.getD k default).wn) (l := (s.copies.getD k default).words) (hf.w k hk) (by have := (ckCopy_of (hv.copy hk)).2.1; omega))) ?_ | refine VSt.pcD rfl rfl rfl rfl rfl rfl rfl rfl ((cloneInt_ok (b := (s.copies.getD k default).wn) (l := (s.copies.getD k default).words) (hf.w k hk) (by have := (ckCopy_of (hv.copy hk)).2.1; omega))) ?_
    refine VSt.run tb_ok false [] 200 rfl (⟨by decide, by have := hv.c; omega, (fun q hq => by match q, hq with | 0, _ => rfl), rfl, rfl, rfl⟩) ?_
    refine ⟨Wk.vw (ps := [(4, 6), (3, 3), (2, 2), (1, 1)]) ⟨rfl, rfl, (by repeat (first | exact wf_nil | refine wf_back rfl rfl rfl ?_)), _, rfl, ⟨rfl, BImp.acc rfl (fun q hq => app_copyF s.copies k q hq), rfl, BImp.refl _, rfl, BImp.refl _, rfl, BImp.refl _, trivial⟩⟩, trivial⟩
  refine VSt.run tb_ok false [] 200 rfl trivial ?_
  exact ⟨rfl, _, [(1, 4), (0, 2)], _, _, rfl, ⟨rfl, rfl, wf_imp rfl rfl (AImp.refl _) wf_nil, _, rfl, LImp.refl _⟩, rfl, rfl⟩
end Go.Proofs.YtncpeobcgmkkbaaGreat
/- Walks: one more copy is sorted in. -/
set_option maxRecDepth 100000
namespace Go.Proofs.YtncpeobcgmkkbaaGreat
variable {r : Tr (List Value × TypeId)}
theorem with1_ok (a b : Copy) : VP (sE r) 85 [.agg ((eCopy a).map .p), .agg ((eCopy b).map .p)] (iv (cmpI a.id b.id)) := by
  refine VP.of (fn := Tryz.f85) tb_ok rfl (by kernel_rfl) rfl rfl rfl ?_
  refine VSt.run tb_ok false [] 200 rfl trivial ?_
  first | refine VSt.pc rfl rfl rfl rfl rfl rfl rfl rfl ((compare_ok a.id b.id)) ?_ | refine VSt.pcD rfl rfl rfl rfl rfl rfl rfl rfl ((compare_ok a.id b.id)) ?_
  refine VSt.run tb_ok false [] 200 rfl trivial ?_
  exact EndsP.mk rfl rfl rfl rfl
theorem u64_wrap {n : Nat} (h : n < 18446744073709551616) : IntKind.u64.wrap (Int.ofNat n) = Int.ofNat n := by
  show (Int.ofNat n) % 18446744073709551616 = _
  exact Int.emod_eq_of_lt (by simp) (by simp only [Int.ofNat_eq_natCast]; omega)
theorem u8_wrap {n : Nat} (h : n < 256) : IntKind.u8.wrap (Int.ofNat n) = Int.ofNat n := by
  show (Int.ofNat n) % 256 = _
  exact Int.emod_eq_of_lt (by simp) (by simp only [Int.ofNat_eq_natCast]; omega)
theorem inR_u8 (b : UInt8) : inR (Int.ofNat b.toNat) := by
  have := b.toNat_lt
  unfold inR; simp only [Int.ofNat_eq_natCast]; omega
theorem inR_u8' (b : UInt8) : inR (0 + Int.ofNat b.toNat) := by rw [Int.zero_add]; exact inR_u8 b
theorem len64_ok {n : Nat} (hn : n ≤ 100) : ∃ v, VP (sE r) 141 [.p (.int .u64 (Int.ofNat n))] (iv v) := by
  apply Exists.intro
  refine VP.of (fn := Tryz.f141) tb_ok rfl (by kernel_rfl) rfl rfl rfl ?_
  refine VSt.run tb_ok false [] 200 rfl trivial ?_
  refine VSt.cond rfl (fun h => absurd (of_decide_eq_true h) (by simp only [Int.ofNat_eq_natCast]; omega)) (fun _ => ?_)
  refine VSt.run tb_ok false [] 200 rfl trivial ?_
  refine VSt.cond rfl (fun h => absurd (of_decide_eq_true h) (by simp only [Int.ofNat_eq_natCast]; omega)) (fun _ => ?_)
  refine VSt.run tb_ok false [] 200 rfl trivial ?_
  refine VSt.cond rfl (fun h => absurd (of_decide_eq_true h) (by simp only [Int.ofNat_eq_natCast]; omega)) (fun _ => ?_)
  refine VSt.run tb_ok false [] 200 rfl (⟨u8_wrap (by omega), (by show n < 256; omega), inR_u8 _, inR_u8' _⟩) ?_
  exact EndsP.mk rfl rfl rfl rfl
theorem len_ok {n : Nat} (hn : n ≤ 100) : ∃ v, VP (sE r) 116 [.p (.int .u64 (Int.ofNat n))] (iv v) := by
  refine Exists.elim (len64_ok (r := r) hn) fun v hv => ⟨v, ?_⟩
  refine VP.of (fn := Tryz.f116) tb_ok rfl (by kernel_rfl) rfl rfl rfl ?_
  refine VSt.run tb_ok false [] 200 rfl trivial ?_
  first | refine VSt.pc rfl rfl rfl rfl rfl rfl rfl rfl (hv) ?_ | refine VSt.pcD rfl rfl rfl rfl rfl rfl rfl rfl (hv) ?_
  refine VSt.run tb_ok false [] 200 rfl trivial ?_
  exact EndsP.mk rfl rfl rfl rfl
def insAt (l : List Copy) (c : Copy) (j : Nat) : List Copy := l.take j ++ c :: l.drop j
def posI (l : List Copy) (id : Int) : Nat := (l.takeWhile (fun x => decide (x.id < id))).length
theorem pos_eq : ∀ {l : List Copy} {id : Int} {p : Nat}, p ≤ l.length → (∀ k, k < p → (l.getD k default).id < id) → (p < l.length → ¬ (l.getD p default).id < id) → posI l id = p
  | [], id, p, h, _, _ => by
    have : p = 0 := by simpa using h
    subst this; rfl
  | a :: l, id, 0, h, h1, h2 => by
    have := h2 (by simp)
    unfold posI
    rw [List.takeWhile_cons, if_neg (by simpa using this)]; rfl
  | a :: l, id, p + 1, h, h1, h2 => by
    have h0 := h1 0 (by omega)
    have ih := pos_eq (l := l) (id := id) (p := p) (by simpa using h) (fun k hk => by simpa using h1 (k + 1) (by omega)) (fun hp => by simpa using h2 (by simpa using hp))
    unfold posI at ih ⊢
    rw [List.takeWhile_cons, if_pos (by simpa using h0), List.length_cons, ih]
/-- Rising. -/
def Asc (l : List Copy) : Prop := ∀ k, 0 < k → k < l.length → (l.getD (k - 1) default).id < (l.getD k default).id
theorem ins_len (l : List Copy) (c : Copy) {j : Nat} (h : j ≤ l.length) : (insAt l c j).length = l.length + 1 := by
  unfold insAt; simp; omega
theorem ins_at (l : List Copy) (c : Copy) {j : Nat} (h : j ≤ l.length) (k : Nat) : (insAt l c j).getD k default = if k < j then l.getD k default else if k = j then c else l.getD (k - 1) default := by
  unfold insAt
  simp only [List.getD_eq_getElem?_getD]
  by_cases h1 : k < j
  · rw [if_pos h1, List.getElem?_append_left (by simp; omega), List.getElem?_take, if_pos h1]
  · rw [if_neg h1, List.getElem?_append_right (by simp; omega), List.length_take, Nat.min_eq_left h]
    by_cases h2 : k = j
    · subst h2; simp
    · rw [if_neg h2]
      obtain ⟨m, hm⟩ : ∃ m, k - j = m + 1 := ⟨k - j - 1, by omega⟩
      rw [hm, List.getElem?_cons_succ, List.getElem?_drop, show j + m = k - 1 by omega]
theorem ins_end (l : List Copy) (c : Copy) : insAt l c l.length = l ++ [c] := by unfold insAt; simp
theorem app_at (l : List Copy) (c : Copy) {k : Nat} (h : k < l.length) : (l ++ [c]).getD k default = l.getD k default := by
  simp only [List.getD_eq_getElem?_getD]; rw [List.getElem?_append_left h]
theorem cmpI_lt {a b : Int} (h : a < b) : cmpI a b = -1 := by unfold cmpI; rw [if_pos h]
theorem cmpI_gt {a b : Int} (h : b < a) : cmpI a b = 1 := by unfold cmpI; rw [if_neg (by omega), if_pos h]
theorem Asc.lt {l : List Copy} (ha : Asc l) : ∀ {k m : Nat}, k < m → m < l.length → (l.getD k default).id < (l.getD m default).id
  | k, 0, h, _ => absurd h (Nat.not_lt_zero k)
  | k, m + 1, h, hm => by
    have h1 := ha (m + 1) (Nat.succ_pos _) hm
    rw [Nat.add_sub_cancel] at h1
    by_cases e : k = m
    · subst e; exact h1
    · exact Int.lt_trans (Asc.lt ha (by omega) (by omega)) h1
/-- Two neighbours change places. -/
theorem swap_at (l : List Copy) (c : Copy) {j : Nat} (h0 : 0 < j) (h : j ≤ l.length) (k : Nat) : (if k = j - 1 then c else if k = j then l.getD (j - 1) default else (insAt l c j).getD k default) = (insAt l c (j - 1)).getD k default := by
  rw [ins_at l c h, ins_at l c (j := j - 1) (by omega)]
  by_cases h1 : k = j - 1
  · subst h1; rw [if_pos rfl, if_neg (Nat.lt_irrefl _), if_pos rfl]
  · rw [if_neg h1]
    by_cases h2 : k = j
    · subst h2; rw [if_pos rfl, if_neg (by omega), if_neg (by omega)]
    · rw [if_neg h2]
      by_cases h3 : k < j
      · rw [if_pos h3, if_pos (by omega)]
      · rw [if_neg h3, if_neg h2, if_neg (by omega), if_neg h1]
theorem swap_cell (l : List Copy) (c : Copy) {j : Nat} (h0 : 0 < j) (h : j ≤ l.length) (q : Nat) :
    (bif Nat.beq q (0 + (j - 1)) then ppaste (bif Nat.beq (0 + (j - 1)) (0 + j) then ppaste (fCopies (insAt l c j) (0 + j)) 0 (eCopy ((insAt l c j).getD (0 + (j - 1)) default)) else fCopies (insAt l c j) (0 + (j - 1))) 0 (eCopy ((insAt l c j).getD (0 + j) default))
      else bif Nat.beq q (0 + j) then ppaste (fCopies (insAt l c j) (0 + j)) 0 (eCopy ((insAt l c j).getD (0 + (j - 1)) default)) else fCopies (insAt l c j) q) = fCopies (insAt l c (j - 1)) q := by
  have e1 : (insAt l c j).getD j default = c := by rw [ins_at l c h, if_neg (Nat.lt_irrefl _), if_pos rfl]
  have e2 : (insAt l c j).getD (j - 1) default = l.getD (j - 1) default := by rw [ins_at l c h, if_pos (by omega)]
  have hs := swap_at l c h0 h q
  rw [Nat.zero_add, Nat.zero_add, e1, e2, show Nat.beq (j - 1) j = false from beq_ne (by omega)]
  unfold fCopies
  rw [← hs]
  by_cases h1 : q = j - 1
  · rw [if_pos h1, h1, Nat.beq_refl]; rfl
  · rw [if_neg h1, beq_ne h1]
    by_cases h2 : q = j
    · rw [if_pos h2, h2, Nat.beq_refl]; rfl
    · rw [if_neg h2, beq_ne h2]; rfl
theorem ins_ok {l : List Copy} {c : Copy} (ha : Asc l) (hn : l.length ≤ 10) (hd : ∀ k, k < l.length → (l.getD k default).id ≠ c.id) :
    VC (sE r) [0] 132 [.sl 0 2 0 (l.length + 1) (l.length + 1) 0, nv 0, nv (l.length + 1), .fn 85 [] []] [(0, .arr (l.length + 1) 2 (fCopies (l ++ [c])) 44)]
      (fun a L => a = .tup [] ∧ L = [(0, .arr (l.length + 1) 2 (fCopies (insAt l c (posI l c.id))) 44)]) := by
  refine VC.of (fn := Tryz.f132) tb_ok rfl (by kernel_rfl) rfl rfl ?_
  refine VSt.run tb_ok false [] 200 rfl ((by show inR _; unfold inR; decide)) ?_
  refine VSt.loop (α := Nat × List Copy) (fun x F L => 1 ≤ x.1 ∧ x.1 ≤ l.length + 1 ∧ x.2 = (if x.1 = l.length + 1 then insAt l c (posI l c.id) else l ++ [c]) ∧ F = [(0, .sl 0 2 0 (l.length + 1) (l.length + 1) 0), (1, nv 0), (2, nv (l.length + 1)), (3, .fn 85 [] []), (8, nv x.1)] ∧ L = [(0, .arr (l.length + 1) 2 (fCopies (x.2)) 44)]) (fun x => l.length + 1 - x.1) (1, l ++ [c]) ?_ ⟨Nat.le_refl _, Nat.succ_pos _, ?_, rfl, rfl⟩ ?_
  · (refine Vw.sub' (subK (by repeat (first | exact sk_nil | refine sk_cons rfl ?_))))
  · show l ++ [c] = if 1 = l.length + 1 then _ else _
    by_cases e : 1 = l.length + 1
    · rw [if_pos e]
      have : l = [] := List.length_eq_zero_iff.1 (by omega)
      subst this; rfl
    · rw [if_neg e]
  rintro ⟨i, m⟩ F L ⟨h1, h2, hm, rfl, rfl⟩
  have h1 : 1 ≤ i := h1
  have h2 : i ≤ l.length + 1 := h2
  have hm : m = (if i = l.length + 1 then insAt l c (posI l c.id) else l ++ [c]) := hm
  refine VSt.run tb_ok false [] 200 rfl trivial ?_
  refine VSt.cond rfl (fun h => ?_) (fun h => ?_)
  · have hi : i < l.length + 1 := by have := of_decide_eq_true h; simp only [Int.ofNat_eq_natCast] at this; omega
    have hni : ¬ i = l.length + 1 := by omega
    rw [if_neg hni] at hm
    subst hm
    refine VSt.run tb_ok false [] 200 rfl trivial ?_
    by_cases hl : i < l.length
    · refine VSt.loop (α := Unit) (fun _ F L => F = [(0, .sl 0 2 0 (l.length + 1) (l.length + 1) 0), (1, nv 0), (2, nv (l.length + 1)), (3, .fn 85 [] []), (8, nv i), (9, nv i)] ∧ L = [(0, .arr (l.length + 1) 2 (fCopies (l ++ [c])) 44)]) (fun _ => 0) () ?_ ⟨rfl, rfl⟩ ?_
      · (refine Vw.sub' (subK (by repeat (first | exact sk_nil | refine sk_cons rfl ?_))))
      rintro _ F L ⟨rfl, rfl⟩
      refine VSt.run tb_ok false [] 200 rfl trivial ?_
      first | refine VSt.splitO 21 rfl (fun h3 => ?_) (fun h3 => ?_) | refine VSt.splitD 21 rfl (fun h3 => ?_) (fun h3 => ?_)
      · refine VSt.run tb_ok false [30] 200 rfl (⟨hi, rfl, by omega, rfl, (by show inR _; unfold inR; simp only [Int.ofNat_eq_natCast]; omega)⟩) ?_
        refine VSt.putD 29 (nv (i - 1)) rfl (iv_nv (by simp only [Int.ofNat_eq_natCast]; omega)) ?_
        refine VSt.run tb_ok false [] 200 rfl (⟨(show i - 1 < l.length + 1 by omega), rfl, (show 0 + (i - 1) < l.length + 1 by omega), rfl⟩) ?_
        first | refine VSt.pc rfl rfl rfl rfl rfl rfl rfl rfl ((with1_ok ((l ++ [c]).getD (0 + i) default) ((l ++ [c]).getD (0 + (i - 1)) default))) ?_ | refine VSt.pcD rfl rfl rfl rfl rfl rfl rfl rfl ((with1_ok ((l ++ [c]).getD (0 + i) default) ((l ++ [c]).getD (0 + (i - 1)) default))) ?_
        refine VSt.run tb_ok false [] 200 rfl trivial ?_
        have hc : cmpI ((l ++ [c]).getD (0 + i) default).id ((l ++ [c]).getD (0 + (i - 1)) default).id = 1 := by
          rw [Nat.zero_add, Nat.zero_add, app_at l c hl, app_at l c (k := i - 1) (by omega)]
          exact cmpI_gt (ha i (by omega) hl)
        refine VSt.cond rfl (fun h4 => absurd (of_decide_eq_true h4) (by rw [hc]; decide)) (fun _ => ?_)
        refine VSt.run tb_ok false [] 200 rfl ((by show inR _; unfold inR; simp only [Int.ofNat_eq_natCast]; omega)) ?_
        exact ⟨(i + 1, l ++ [c]), _, _, (by (refine Vw.sub' (subK (by repeat (first | exact sk_nil | refine sk_cons rfl ?_))))), ⟨Nat.succ_pos _, by omega, (by show _ = if i + 1 = l.length + 1 then _ else _; rw [if_neg (by omega)]), rfl, rfl⟩, (by show l.length + 1 - (i + 1) < l.length + 1 - i; omega)⟩
      · exact absurd (of_decide_eq_false h3) (by simp only [Int.ofNat_eq_natCast]; omega)
    · have hil : i = l.length := by omega
      refine VSt.loop (α := Nat) (fun j F L => j ≤ l.length ∧ (∀ k, j ≤ k → k < l.length → c.id < (l.getD k default).id) ∧ F = [(0, .sl 0 2 0 (l.length + 1) (l.length + 1) 0), (1, nv 0), (2, nv (l.length + 1)), (3, .fn 85 [] []), (8, nv i), (9, nv j)] ∧ L = [(0, .arr (l.length + 1) 2 (fCopies (insAt l c j)) 44)]) (fun j => j) l.length ?_ ⟨Nat.le_refl _, fun k h1 h2 => absurd h2 (by omega), rfl, rfl⟩ ?_
      · refine Vw.trans (Vw.sub' (F0 := [(0, .sl 0 2 0 (l.length + 1) (l.length + 1) 0), (1, nv 0), (2, nv (l.length + 1)), (3, .fn 85 [] []), (8, nv i), (9, nv i)]) (subK (by repeat (first | exact sk_nil | refine sk_cons rfl ?_)))) ?_
        rw [hil, ins_end]
        exact Vw.imp (LImp.refl _)
      rintro j F L ⟨hj, hgt, rfl, rfl⟩
      have hlen := ins_len l c hj
      refine VSt.run tb_ok false [] 200 rfl trivial ?_
      first | refine VSt.splitO 21 rfl (fun h3 => ?_) (fun h3 => ?_) | refine VSt.splitD 21 rfl (fun h3 => ?_) (fun h3 => ?_)
      · have hj0 : 0 < j := by have := of_decide_eq_true h3; simp only [Int.ofNat_eq_natCast] at this; omega
        refine VSt.run tb_ok false [30] 200 rfl (⟨(show j < l.length + 1 by omega), rfl, (show 0 + j < l.length + 1 by omega), rfl, (by show inR _; unfold inR; simp only [Int.ofNat_eq_natCast]; omega)⟩) ?_
        refine VSt.putD 29 (nv (j - 1)) rfl (iv_nv (by simp only [Int.ofNat_eq_natCast]; omega)) ?_
        refine VSt.run tb_ok false [] 200 rfl (⟨(show j - 1 < l.length + 1 by omega), rfl, (show 0 + (j - 1) < l.length + 1 by omega), rfl⟩) ?_
        first | refine VSt.pc rfl rfl rfl rfl rfl rfl rfl rfl ((with1_ok ((insAt l c j).getD (0 + j) default) ((insAt l c j).getD (0 + (j - 1)) default))) ?_ | refine VSt.pcD rfl rfl rfl rfl rfl rfl rfl rfl ((with1_ok ((insAt l c j).getD (0 + j) default) ((insAt l c j).getD (0 + (j - 1)) default))) ?_
        refine VSt.run tb_ok false [] 200 rfl trivial ?_
        have e1 : (insAt l c j).getD (0 + j) default = c := by rw [Nat.zero_add, ins_at l c hj, if_neg (Nat.lt_irrefl _), if_pos rfl]
        have e2 : (insAt l c j).getD (0 + (j - 1)) default = l.getD (j - 1) default := by rw [Nat.zero_add, ins_at l c hj, if_pos (by omega)]
        refine VSt.cond rfl (fun h4 => ?_) (fun h4 => ?_)
        · have inr : inR (Int.ofNat j - 1) := by unfold inR; simp only [Int.ofNat_eq_natCast]; omega
          have b1 : j - 1 < l.length + 1 := by omega
          have b2 : 0 + (j - 1) < l.length + 1 := by omega
          have b3 : j < l.length + 1 := by omega
          have b4 : 0 + j < l.length + 1 := by omega
          refine VSt.run tb_ok false [42] 200 rfl (inr) ?_
          refine VSt.putD 41 (nv (j - 1)) rfl (iv_nv (by simp only [Int.ofNat_eq_natCast]; omega)) ?_
          refine VSt.run tb_ok false [45] 200 rfl (inr) ?_
          refine VSt.putD 44 (nv (j - 1)) rfl (iv_nv (by simp only [Int.ofNat_eq_natCast]; omega)) ?_
          refine VSt.run tb_ok false [] 200 rfl (⟨b1, rfl, b2, rfl, b3, rfl, b4, rfl, b3, rfl, b4, rfl, Nat.le_refl _, b1, rfl, b2, rfl, Nat.le_refl _, inr⟩) ?_
          have hlt : c.id < (l.getD (j - 1) default).id := by
            have h5 := of_decide_eq_true h4
            rw [e1, e2] at h5
            unfold cmpI at h5
            split at h5
            · assumption
            · split at h5 <;> exact absurd h5 (by decide)
          refine ⟨j - 1, _, _, Wk.vw (ps := [(0, 0)]) (F0 := [(0, .sl 0 2 0 (l.length + 1) (l.length + 1) 0), (1, nv 0), (2, nv (l.length + 1)), (3, .fn 85 [] []), (8, nv i), (9, nv (j - 1))]) (L0 := [(0, .arr (l.length + 1) 2 (fCopies (insAt l c (j - 1))) 44)]) ⟨rfl, rfl, ?_, _, rfl, ⟨rfl, BImp.arr fun q hq => swap_cell l c hj0 hj q, trivial⟩⟩, ⟨by omega, fun k k1 k2 => ?_, rfl, rfl⟩, by omega⟩
          · refine wf_back rfl rfl rfl (wf_back rfl rfl rfl (wf_back rfl rfl rfl (wf_back rfl rfl rfl (wf_back rfl rfl rfl (wf_imp rfl rfl (iv_nv ?_) wf_nil)))))
            simp only [Int.ofNat_eq_natCast]; omega
          · by_cases e : k = j - 1
            · subst e; exact hlt
            · exact hgt k (by omega) k2
        · have hp : posI l c.id = j := by
            refine pos_eq hj (fun k hk => ?_) (fun hp => ?_)
            · have hle : ¬ c.id < (l.getD (j - 1) default).id := fun hlt => by
                have h5 := of_decide_eq_false h4
                rw [e1, e2, cmpI_lt hlt] at h5
                exact h5 (by decide)
              have hne := hd (j - 1) (by omega)
              by_cases e : k = j - 1
              · subst e; omega
              · have := ha.lt (k := k) (m := j - 1) (by omega) (by omega); omega
            · have := hgt j (Nat.le_refl _) hp; omega
          refine VSt.run tb_ok false [] 200 rfl ((by show inR _; unfold inR; simp only [Int.ofNat_eq_natCast]; omega)) ?_
          exact ⟨(i + 1, insAt l c j), _, _, (by (refine Vw.sub' (subK (by repeat (first | exact sk_nil | refine sk_cons rfl ?_))))), ⟨Nat.succ_pos _, by omega, (by show _ = if i + 1 = l.length + 1 then _ else _; rw [if_pos (by omega), hp]), rfl, rfl⟩, (by show l.length + 1 - (i + 1) < l.length + 1 - i; omega)⟩
      · have hj0 : j = 0 := by have := of_decide_eq_false h3; simp only [Int.ofNat_eq_natCast] at this; omega
        have hp : posI l c.id = j := by
          refine pos_eq hj (fun k hk => absurd hk (by omega)) (fun hp => ?_)
          have := hgt j (Nat.le_refl _) hp; omega
        refine VSt.run tb_ok false [] 200 rfl ((by show inR _; unfold inR; simp only [Int.ofNat_eq_natCast]; omega)) ?_
        exact ⟨(i + 1, insAt l c j), _, _, (by (refine Vw.sub' (subK (by repeat (first | exact sk_nil | refine sk_cons rfl ?_))))), ⟨Nat.succ_pos _, by omega, (by show _ = if i + 1 = l.length + 1 then _ else _; rw [if_pos (by omega), hp]), rfl, rfl⟩, (by show l.length + 1 - (i + 1) < l.length + 1 - i; omega)⟩
  · have hi : i = l.length + 1 := by have := of_decide_eq_false h; simp only [Int.ofNat_eq_natCast] at this; omega
    rw [if_pos hi] at hm
    subst hm
    refine VSt.run tb_ok false [] 200 rfl trivial ?_
    exact ⟨rfl, _, [(0, 0)], _, _, rfl, ⟨rfl, rfl, wf_imp rfl rfl (AImp.refl _) wf_nil, _, rfl, LImp.refl _⟩, rfl, rfl⟩
end Go.Proofs.YtncpeobcgmkkbaaGreat
/- Walks: a stem with one more copy. -/
set_option maxRecDepth 100000
namespace Go.Proofs.YtncpeobcgmkkbaaGreat
variable {r : Tr (List Value × TypeId)}
theorem pdq_ok {l : List Copy} {c : Copy} {v : Int} (ha : Asc l) (hn : l.length ≤ 10) (hd : ∀ k, k < l.length → (l.getD k default).id ≠ c.id) :
    VC (sE r) [0] 115 [.sl 0 2 0 (l.length + 1) (l.length + 1) 0, nv 0, nv (l.length + 1), iv v, .fn 85 [] []] [(0, .arr (l.length + 1) 2 (fCopies (l ++ [c])) 44)]
      (fun a L => a = .tup [] ∧ L = [(0, .arr (l.length + 1) 2 (fCopies (insAt l c (posI l c.id))) 44)]) := by
  refine VC.of (fn := Tryz.f115) tb_ok rfl (by kernel_rfl) rfl rfl ?_
  refine VSt.run tb_ok false [] 200 rfl trivial ?_
  refine VSt.loop (α := Unit) (fun _ F L => F = [(0, .sl 0 2 0 (l.length + 1) (l.length + 1) 0), (1, nv 0), (2, nv (l.length + 1)), (3, iv v), (4, .fn 85 [] [])] ∧ L = [(0, .arr (l.length + 1) 2 (fCopies (l ++ [c])) 44)]) (fun _ => 0) () ?_ ⟨rfl, rfl⟩ ?_
  · (refine Vw.sub' (subK (by repeat (first | exact sk_nil | refine sk_cons rfl ?_))))
  rintro _ F L ⟨rfl, rfl⟩
  refine VSt.run tb_ok false [] 200 rfl ((by show inR _; unfold inR; simp only [Int.ofNat_eq_natCast]; omega)) ?_
  refine VSt.cond rfl (fun _ => ?_) (fun h => absurd (of_decide_eq_false h) (by simp only [Int.ofNat_eq_natCast]; omega))
  refine VSt.run tb_ok false [] 200 rfl trivial ?_
  refine VSt.cc [(0, 0)] rfl rfl rfl rfl rfl rfl rfl rfl rfl rfl rfl (ins_ok ha hn hd) ?_
  rintro a L' ⟨rfl, rfl⟩
  refine VSt.run tb_ok false [] 200 rfl trivial ?_
  exact ⟨rfl, _, [(0, 0)], _, _, rfl, ⟨rfl, rfl, wf_imp rfl rfl (AImp.refl _) wf_nil, _, rfl, LImp.refl _⟩, rfl, rfl⟩
theorem sort_ok {l : List Copy} {c : Copy} (ha : Asc l) (hn : l.length ≤ 10) (hd : ∀ k, k < l.length → (l.getD k default).id ≠ c.id) :
    VC (sE r) [0] 84 [.sl 0 2 0 (l.length + 1) (l.length + 1) 0, .fn 85 [] []] [(0, .arr (l.length + 1) 2 (fCopies (l ++ [c])) 44)]
      (fun a L => a = .tup [] ∧ L = [(0, .arr (l.length + 1) 2 (fCopies (insAt l c (posI l c.id))) 44)]) := by
  refine Exists.elim (len_ok (r := r) (n := l.length + 1) (by omega)) fun v hv => ?_
  refine VC.of (fn := Tryz.f84) tb_ok rfl (by kernel_rfl) rfl rfl ?_
  refine VSt.run tb_ok false [] 200 rfl ((u64_wrap (by omega))) ?_
  first | refine VSt.pc rfl rfl rfl rfl rfl rfl rfl rfl (hv) ?_ | refine VSt.pcD rfl rfl rfl rfl rfl rfl rfl rfl (hv) ?_
  refine VSt.run tb_ok false [] 200 rfl trivial ?_
  refine VSt.cc [(0, 0)] rfl rfl rfl rfl rfl rfl rfl rfl rfl rfl rfl (pdq_ok (v := v) ha hn hd) ?_
  rintro a L' ⟨rfl, rfl⟩
  refine VSt.run tb_ok false [] 200 rfl trivial ?_
  exact ⟨rfl, _, [(0, 0)], _, _, rfl, ⟨rfl, rfl, wf_imp rfl rfl (AImp.refl _) wf_nil, _, rfl, LImp.refl _⟩, rfl, rfl⟩
theorem app_copyG (l : List Copy) (y : Copy) (q : Nat) (hq : q < l.length + 1) : (bif Nat.blt q l.length then fCopies l q else ((eCopy y).drop ((q - l.length) * 2)).take 2) = fCopies (l ++ [y]) q := by
  have := app_copy l y q hq
  rw [Nat.zero_add] at this; exact this
theorem place_no {s : Stem} {id : Int} (h : ¬ 0 ≤ place s id) : ∀ k, k < s.copies.length → (s.copies.getD k default).id ≠ id := fun k hk he => by
  unfold place idxC at h
  cases hf : s.copies.findIdx? (fun c => c.id == id) with
  | some i => rw [hf] at h; exact h (Int.natCast_nonneg i)
  | none =>
    rw [List.findIdx?_eq_none_iff] at hf
    have := hf _ (List.getElem_mem hk)
    rw [getD_get hk] at he
    rw [he] at this; simp at this
theorem AImp.tup {cs ds : List AV} (h : AImps cs ds) : AImp (.tup cs) (.tup ds) := fun E S Z j v hv => by
  cases hv with
  | tup hv => exact .tup (h.vrs hv)
theorem posI_le (l : List Copy) (id : Int) : posI l id ≤ l.length := by
  unfold posI
  exact (List.takeWhile_sublist _).length_le
theorem nn_eq {b : Bool} {α : Type} {l : List α} (h : b = true → l = []) : (b && Nat.beq l.length 0) = b := by
  cases b with
  | false => rfl
  | true => rw [h rfl]; rfl
/-- The error of With. -/
def withE (s : Stem) (c : Copy) : Int := if ckStem s = 0 then (if (!(ckCopy c == 0) || (decide (0 ≤ place s c.id) || (decide (0 < s.copies.length) && !(Int.ofNat (s.copies.getD 0 default).words.length == Int.ofNat c.words.length)))) = true then 40 else if s.copies.length = 7 then 2 else 0) else ckStem s
def withS (s : Stem) (c : Copy) : Stem := if withE s c = 0 then ⟨false, insAt s.copies c (posI s.copies c.id), s.costs, s.nn, s.never⟩ else noStem
theorem pWith_ok (s : Stem) (c : Copy) (hs : s.Ok) (hf : s.Flags) (hw : c.wn = true → c.words = []) (hl : c.words.length < 9223372036854775808) : VP (sE r) 38 [.agg ((eStem s).map .p), .agg ((eCopy c).map .p)] (.tup [.agg ((eStem (withS s c)).map .p), iv (withE s c)]) := by
  refine VP.of (fn := Tryz.f38) tb_ok rfl (by kernel_rfl) rfl rfl rfl ?_
  refine VSt.run tb_ok false [] 200 rfl trivial ?_
  first | refine VSt.pc rfl rfl rfl rfl rfl rfl rfl rfl ((check_ok s hs)) ?_ | refine VSt.pcD rfl rfl rfl rfl rfl rfl rfl rfl ((check_ok s hs)) ?_
  refine VSt.run tb_ok false [] 200 rfl trivial ?_
  have bad : ∀ e, withE s c = e → ¬ e = 0 → AImp (.tup [.agg [.p (.lst 0 true 0 fun _ => []), iv 0, iv 0, iv 0, iv 0, .p (.lst 0 true 0 fun _ => [])], iv e]) (.tup [.agg ((eStem (withS s c)).map .p), iv (withE s c)]) := fun e h1 h2 => by
    unfold withS; rw [h1, if_neg h2]; exact no_imp e
  refine VSt.cond rfl (fun h => ?_) (fun h => ?_)
  · have h0 : ¬ ckStem s = 0 := by simpa using h
    refine VSt.run tb_ok false [] 200 rfl trivial ?_
    exact ⟨rfl, _, rfl, rfl, bad (ckStem s) (by unfold withE; rw [if_neg h0]) h0⟩
  have h0 : ckStem s = 0 := by simpa using h
  have hv := valid_of h0
  refine VSt.run tb_ok false [] 200 rfl trivial ?_
  first | refine VSt.pc rfl rfl rfl rfl rfl rfl rfl rfl ((checkCopy_ok c hl)) ?_ | refine VSt.pcD rfl rfl rfl rfl rfl rfl rfl rfl ((checkCopy_ok c hl)) ?_
  refine VSt.run tb_ok false [] 200 rfl trivial ?_
  have e40 : (!(ckCopy c == 0) || (decide (0 ≤ place s c.id) || (decide (0 < s.copies.length) && !(Int.ofNat (s.copies.getD 0 default).words.length == Int.ofNat c.words.length)))) = true → withE s c = 40 := fun h => by
    unfold withE; rw [if_pos h0, if_pos h]
  have e0 : (!(ckCopy c == 0) || (decide (0 ≤ place s c.id) || (decide (0 < s.copies.length) && !(Int.ofNat (s.copies.getD 0 default).words.length == Int.ofNat c.words.length)))) = false → withE s c = if s.copies.length = 7 then 2 else 0 := fun h => by
    unfold withE; rw [if_pos h0, h, if_neg (by decide)]
  first | refine VSt.splitO 18 rfl (fun h1 => ?_) (fun h1 => ?_) | refine VSt.splitD 18 rfl (fun h1 => ?_) (fun h1 => ?_)
  · refine VSt.run tb_ok false [] 200 rfl trivial ?_
    exact ⟨rfl, _, rfl, rfl, bad 40 (e40 (by rw [h1]; rfl)) (by decide)⟩
  refine VSt.run tb_ok false [] 200 rfl trivial ?_
  first | refine VSt.pc rfl rfl rfl rfl rfl rfl rfl rfl ((index_ok s c.id hs.c)) ?_ | refine VSt.pcD rfl rfl rfl rfl rfl rfl rfl rfl ((index_ok s c.id hs.c)) ?_
  refine VSt.run tb_ok false [] 200 rfl trivial ?_
  first | refine VSt.splitO 25 rfl (fun h2 => ?_) (fun h2 => ?_) | refine VSt.splitD 25 rfl (fun h2 => ?_) (fun h2 => ?_)
  · have h2 : decide (0 ≤ place s c.id) = true := h2
    refine VSt.run tb_ok false [] 200 rfl trivial ?_
    exact ⟨rfl, _, rfl, rfl, bad 40 (e40 (by rw [h1, h2]; rfl)) (by decide)⟩
  have h2 : decide (0 ≤ place s c.id) = false := h2
  refine VSt.run tb_ok false [] 200 rfl trivial ?_
  first | refine VSt.splitO 30 rfl (fun h3 => ?_) (fun h3 => ?_) | refine VSt.splitD 30 rfl (fun h3 => ?_) (fun h3 => ?_)
  all_goals
    first
      | (
          have h3 : 0 < s.copies.length := by have := of_decide_eq_true h3; simp only [Int.ofNat_eq_natCast] at this; omega
          refine VSt.run tb_ok false [] 200 rfl (⟨h3, rfl⟩) ?_
          refine VSt.cond rfl (fun h4 => ?_) (fun h4 => ?_)
          · refine VSt.run tb_ok false [] 200 rfl trivial ?_
            exact ⟨rfl, _, rfl, rfl, bad 40 (e40 (by rw [h1, h2, decide_eq_true h3, show (!(Int.ofNat (s.copies.getD 0 default).words.length == Int.ofNat c.words.length)) = true from h4]; rfl)) (by decide)⟩
          replace e0 := e0 (by rw [h1, h2, decide_eq_true h3, show (!(Int.ofNat (s.copies.getD 0 default).words.length == Int.ofNat c.words.length)) = false from h4]; rfl)
        )
      | (
          have h3 : ¬ 0 < s.copies.length := by have := of_decide_eq_false h3; simp only [Int.ofNat_eq_natCast] at this; omega
          replace e0 := e0 (by rw [h1, h2, decide_eq_false h3]; rfl)
        )
  all_goals
    refine VSt.run tb_ok false [] 200 rfl trivial ?_
    refine VSt.cond rfl (fun h5 => ?_) (fun h5 => ?_)
    · have h5 : s.copies.length = 7 := by have h6 : (Int.ofNat s.copies.length == 7) = true := h5; simp only [Int.ofNat_eq_natCast, beq_iff_eq] at h6; omega
      refine VSt.run tb_ok false [] 200 rfl trivial ?_
      exact ⟨rfl, _, rfl, rfl, bad 2 (by rw [e0, if_pos h5]) (by decide)⟩
    have h5 : ¬ s.copies.length = 7 := by have h6 : (Int.ofNat s.copies.length == 7) = false := h5; intro h7; rw [h7] at h6; exact absurd h6 (by decide)
    have hlen : s.copies.length < 7 := by have := hv.c; omega
    rw [if_neg h5] at e0
    refine VSt.run tb_ok false [] 200 rfl trivial ?_
    refine VSt.cc [] rfl rfl rfl rfl rfl rfl rfl rfl rfl rfl rfl (copied_ok hf hv) ?_
    rintro a L' ⟨rfl, rfl⟩
    refine VSt.run tb_ok false [] 200 rfl trivial ?_
    first | refine VSt.pc rfl rfl rfl rfl rfl rfl rfl rfl ((cloneInt_ok (b := c.wn) (l := c.words) hw (by have := (ckCopy_of (show ckCopy c = 0 by simpa using h1)).2.1; omega))) ?_ | refine VSt.pcD rfl rfl rfl rfl rfl rfl rfl rfl ((cloneInt_ok (b := c.wn) (l := c.words) hw (by have := (ckCopy_of (show ckCopy c = 0 by simpa using h1)).2.1; omega))) ?_
    refine VSt.run tb_ok false [] 200 rfl (⟨by decide, by omega, (fun q hq => by match q, hq with | 0, _ => rfl), rfl, rfl, rfl⟩) ?_
    refine VSt.viewO (Wk.vw (ps := [(2, 2), (5, 5), (6, 6), (3, 3)]) (F0 := [(4, .ref 2 0), (7, .ref 5 0), (64, .sl 6 2 0 (s.copies.length + 1) (s.copies.length + 1) 0)])
      (L0 := [(2, zeroS), (5, .cells [.sl 6 2 0 (s.copies.length + 1) (s.copies.length + 1) 0, iv s.costs.lose, iv s.costs.gain, iv s.costs.like, iv s.costs.turn, .acc s.nn 3 2 s.never.length] 27), (6, .arr (s.copies.length + 1) 2 (fCopies (s.copies ++ [c])) 44), (3, .acc s.never.length 2 (fNevers s.never) 57)])
      ⟨rfl, rfl, wf_back rfl rfl rfl (wf_back rfl rfl rfl (wf_imp rfl rfl (AImp.accSl (Nat.succ_pos _) rfl rfl) wf_nil)), _, rfl,
        ⟨rfl, BImp.refl _, rfl, BImp.cells ⟨AImp.accSl (Nat.succ_pos _) rfl rfl, AImp.refl _, AImp.refl _, AImp.refl _, AImp.refl _, AImp.refl _, trivial⟩, rfl, BImp.accArr (Nat.succ_pos _) rfl (fun q hq => app_copyG s.copies c q hq), rfl, BImp.refl _, trivial⟩⟩) ?_
    refine VSt.cc [(0, 6)] rfl rfl rfl rfl rfl rfl rfl rfl rfl rfl rfl (sort_ok (l := s.copies) (c := c) (fun k k1 k2 => hv.asc k2 k1) (by omega) (place_no (of_decide_eq_false h2))) ?_
    rintro a L' ⟨rfl, rfl⟩
    refine VSt.viewO (Vw.freeze 6 rfl rfl ⟨Nat.le_of_eq (Nat.zero_add _), Nat.le_refl _, rfl, Nat.le_of_eq (Nat.zero_add _), Nat.le_refl _, rfl⟩) ?_
    refine VSt.viewO (Vw.freezeA 3 rfl rfl ⟨Nat.le_refl _, rfl⟩) ?_
    refine VSt.run tb_ok false [] 200 rfl trivial ?_
    refine ⟨rfl, _, rfl, rfl, ?_⟩
    rw [e0, show withS s c = _ by unfold withS; rw [if_pos e0]]
    refine AImp.tup ⟨AImp.agg ⟨?_, AImp.refl _, AImp.refl _, AImp.refl _, AImp.refl _, ?_, trivial⟩, AImp.refl _, trivial⟩
    · show AImp _ (.p (.lst _ false (insAt s.copies c (posI s.copies c.id)).length _))
      rw [ins_len _ _ (posI_le _ _)]
      exact AImp.lst fun k hk => by rw [Nat.zero_add]; rfl
    · refine AImp.of_eq ?_
      show AV.p (.lst _ (s.nn && Nat.beq s.never.length 0) _ _) = .p (eNevers s.nn s.never)
      rw [nn_eq hf.n]; rfl
end Go.Proofs.YtncpeobcgmkkbaaGreat
/- Walks: a stem with one more copy, by the specification. -/
set_option maxRecDepth 100000
namespace Go.Proofs.YtncpeobcgmkkbaaGreat
variable {r : Tr (List Value × TypeId)}
theorem blt_t {a b : Nat} (h : a < b) : Nat.blt a b = true := by simpa using h
theorem blt_f {a b : Nat} (h : ¬ a < b) : Nat.blt a b = false := by rw [← Bool.not_eq_true]; simpa using h
theorem AImp.slE {i sz m m' c c' : Nat} (h : m = m') (h2 : c = c') : AImp (.sl i sz 0 m c 0) (.sl i sz 0 m' c' 0) := by subst h h2; exact AImp.refl _
/-- The cells of a list with one more at its place. -/
def sg (c : Copy) (k : Nat) : List PV := ((eCopy c).drop (k * 2)).take 2
theorem sg0 (c : Copy) : sg c 0 = eCopy c := rfl
theorem insA (l : List Copy) (c : Copy) (p : Nat) (h0 : p = 0) (hr : p = l.length) (q : Nat) (hq : q < 0 + 1) : (bif Nat.blt q 0 then [] else sg c (q - 0)) = fCopies (insAt l c p) q := by
  have : q = 0 := by omega
  subst this
  unfold fCopies
  rw [ins_at l c (by omega), if_neg (by omega), if_pos h0.symm]; rfl
theorem insB (l : List Copy) (c : Copy) (p : Nat) (h0 : p = 0) (hp : p ≤ l.length) (q : Nat) (hq : q < 0 + 1 + (l.length - p)) : (bif Nat.blt q (0 + 1) then (bif Nat.blt (0 + q) 0 then [] else sg c (0 + q - 0)) else eCopy (l.getD (p + (q - (0 + 1))) default)) = fCopies (insAt l c p) q := by
  unfold fCopies
  rw [ins_at l c hp]
  by_cases h : q < 1
  · have : q = 0 := by omega
    subst this
    rw [if_neg (by omega), if_pos h0.symm]; rfl
  · rw [blt_f (by omega), if_neg (by omega), if_neg (by omega), show p + (q - (0 + 1)) = q - 1 by omega]; rfl
theorem insC (l : List Copy) (c : Copy) (p : Nat) (hp : p ≤ l.length) (q : Nat) (hq : q < 0 + (p - 0) + 1) : (bif Nat.blt q (0 + (p - 0)) then (bif Nat.blt (0 + q) 0 then [] else eCopy (l.getD (0 + (0 + q - 0)) default)) else sg c (q - (0 + (p - 0)))) = fCopies (insAt l c p) q := by
  unfold fCopies
  rw [ins_at l c hp]
  by_cases h : q < p
  · rw [blt_t (by omega), blt_f (by omega), if_pos h, show 0 + (0 + q - 0) = q by omega]; rfl
  · rw [blt_f (by omega), if_neg h, if_pos (by omega), show q - (0 + (p - 0)) = 0 by omega]; rfl
theorem insD (l : List Copy) (c : Copy) (p : Nat) (hp : p ≤ l.length) (q : Nat) (hq : q < 0 + (p - 0) + 1 + (l.length - p)) : (bif Nat.blt q (0 + (p - 0) + 1) then (bif Nat.blt (0 + q) (0 + (p - 0)) then (bif Nat.blt (0 + (0 + q)) 0 then [] else eCopy (l.getD (0 + (0 + (0 + q) - 0)) default)) else sg c (0 + q - (0 + (p - 0)))) else eCopy (l.getD (p + (q - (0 + (p - 0) + 1))) default)) = fCopies (insAt l c p) q := by
  by_cases h : q < p + 1
  · rw [blt_t (by omega), Nat.zero_add]
    exact insC l c p hp q (by omega)
  · unfold fCopies
    rw [ins_at l c hp, blt_f (by omega), if_neg (by omega), if_neg (by omega), show p + (q - (0 + (p - 0) + 1)) = q - 1 by omega]; rfl
set_option maxHeartbeats 2000000 in
theorem rWith_ok (s : Stem) (c : Copy) (hs : s.Ok) (hl : c.words.length < 9223372036854775808) : VP (sE r) 39 [.agg ((eStem s).map .p), .agg ((eCopy c).map .p)] (.tup [.agg ((eStem (withS s c)).map .p), iv (withE s c)]) := by
  refine VP.of (fn := Tryz.f39) tb_ok rfl (by kernel_rfl) rfl rfl rfl ?_
  refine VSt.run tb_ok false [] 200 rfl trivial ?_
  first | refine VSt.pc rfl rfl rfl rfl rfl rfl rfl rfl ((rCheck_ok s hs)) ?_ | refine VSt.pcD rfl rfl rfl rfl rfl rfl rfl rfl ((rCheck_ok s hs)) ?_
  refine VSt.run tb_ok false [] 200 rfl trivial ?_
  have bad : ∀ e, withE s c = e → ¬ e = 0 → AImp (.tup [.agg [.p (.lst 0 true 0 fun _ => []), iv 0, iv 0, iv 0, iv 0, .p (.lst 0 true 0 fun _ => [])], iv e]) (.tup [.agg ((eStem (withS s c)).map .p), iv (withE s c)]) := fun e h1 h2 => by
    unfold withS; rw [h1, if_neg h2]; exact no_imp e
  refine VSt.cond rfl (fun h => ?_) (fun h => ?_)
  · have h0 : ¬ ckStem s = 0 := by simpa using h
    refine VSt.run tb_ok false [] 200 rfl trivial ?_
    exact ⟨rfl, _, rfl, rfl, bad (ckStem s) (by unfold withE; rw [if_neg h0]) h0⟩
  have h0 : ckStem s = 0 := by simpa using h
  have hv := valid_of h0
  refine VSt.run tb_ok false [] 200 rfl trivial ?_
  first | refine VSt.pc rfl rfl rfl rfl rfl rfl rfl rfl ((rCheckCopy_ok c hl)) ?_ | refine VSt.pcD rfl rfl rfl rfl rfl rfl rfl rfl ((rCheckCopy_ok c hl)) ?_
  refine VSt.run tb_ok false [] 200 rfl trivial ?_
  have e40 : (!(ckCopy c == 0) || (decide (0 ≤ place s c.id) || (decide (0 < s.copies.length) && !(Int.ofNat (s.copies.getD 0 default).words.length == Int.ofNat c.words.length)))) = true → withE s c = 40 := fun h => by
    unfold withE; rw [if_pos h0, if_pos h]
  have e0 : (!(ckCopy c == 0) || (decide (0 ≤ place s c.id) || (decide (0 < s.copies.length) && !(Int.ofNat (s.copies.getD 0 default).words.length == Int.ofNat c.words.length)))) = false → withE s c = if s.copies.length = 7 then 2 else 0 := fun h => by
    unfold withE; rw [if_pos h0, h, if_neg (by decide)]
  first | refine VSt.splitO 17 rfl (fun h1 => ?_) (fun h1 => ?_) | refine VSt.splitD 17 rfl (fun h1 => ?_) (fun h1 => ?_)
  · refine VSt.run tb_ok false [] 200 rfl trivial ?_
    exact ⟨rfl, _, rfl, rfl, bad 40 (e40 (by rw [h1]; rfl)) (by decide)⟩
  refine VSt.run tb_ok false [] 200 rfl trivial ?_
  first | refine VSt.pc rfl rfl rfl rfl rfl rfl rfl rfl ((place_ok s c.id hs.c)) ?_ | refine VSt.pcD rfl rfl rfl rfl rfl rfl rfl rfl ((place_ok s c.id hs.c)) ?_
  refine VSt.run tb_ok false [] 200 rfl trivial ?_
  first | refine VSt.splitO 24 rfl (fun h2 => ?_) (fun h2 => ?_) | refine VSt.splitD 24 rfl (fun h2 => ?_) (fun h2 => ?_)
  · have h2 : decide (0 ≤ place s c.id) = true := h2
    refine VSt.run tb_ok false [] 200 rfl trivial ?_
    exact ⟨rfl, _, rfl, rfl, bad 40 (e40 (by rw [h1, h2]; rfl)) (by decide)⟩
  have h2 : decide (0 ≤ place s c.id) = false := h2
  refine VSt.run tb_ok false [] 200 rfl trivial ?_
  first | refine VSt.splitO 29 rfl (fun h3 => ?_) (fun h3 => ?_) | refine VSt.splitD 29 rfl (fun h3 => ?_) (fun h3 => ?_)
  all_goals
    first
      | (
          have h3 : 0 < s.copies.length := by have := of_decide_eq_true h3; simp only [Int.ofNat_eq_natCast] at this; omega
          refine VSt.run tb_ok false [] 200 rfl (⟨h3, rfl⟩) ?_
          refine VSt.cond rfl (fun h4 => ?_) (fun h4 => ?_)
          · refine VSt.run tb_ok false [] 200 rfl trivial ?_
            exact ⟨rfl, _, rfl, rfl, bad 40 (e40 (by rw [h1, h2, decide_eq_true h3, show (!(Int.ofNat (s.copies.getD 0 default).words.length == Int.ofNat c.words.length)) = true from h4]; rfl)) (by decide)⟩
          replace e0 := e0 (by rw [h1, h2, decide_eq_true h3, show (!(Int.ofNat (s.copies.getD 0 default).words.length == Int.ofNat c.words.length)) = false from h4]; rfl)
        )
      | (
          have h3 : ¬ 0 < s.copies.length := by have := of_decide_eq_false h3; simp only [Int.ofNat_eq_natCast] at this; omega
          replace e0 := e0 (by rw [h1, h2, decide_eq_false h3]; rfl)
        )
  all_goals
    refine VSt.run tb_ok false [] 200 rfl trivial ?_
    refine VSt.cond rfl (fun h5 => ?_) (fun h5 => ?_)
    · have h5 : s.copies.length = 7 := by have h6 : (Int.ofNat s.copies.length == 7) = true := h5; simp only [Int.ofNat_eq_natCast, beq_iff_eq] at h6; omega
      refine VSt.run tb_ok false [] 200 rfl trivial ?_
      exact ⟨rfl, _, rfl, rfl, bad 2 (by rw [e0, if_pos h5]) (by decide)⟩
    have h5 : ¬ s.copies.length = 7 := by have h6 : (Int.ofNat s.copies.length == 7) = false := h5; intro h7; rw [h7] at h6; exact absurd h6 (by decide)
    have hlen : s.copies.length < 7 := by have := hv.c; omega
    rw [if_neg h5] at e0
    refine VSt.run tb_ok false [] 200 rfl trivial ?_
    refine VSt.loop (α := Nat) (fun p F L => p ≤ s.copies.length ∧ (∀ k, k < p → (s.copies.getD k default).id < c.id) ∧ F = [(2, .ref 0 0), (3, .ref 1 0), (4, .ref 2 0), (7, nv p)] ∧ L = [(0, .cells ((eStem s).map .p) 27), (1, .cells ((eCopy c).map .p) 44), (2, zeroS)]) (fun p => s.copies.length - p) 0 (Wk.vw (ps := [(0, 0), (1, 1), (2, 2)]) ⟨rfl, rfl, (by repeat (first | exact wf_nil | refine wf_back rfl rfl rfl ?_)), _, rfl, LImp.refl _⟩) ⟨Nat.zero_le _, fun k hk => absurd hk (Nat.not_lt_zero k), rfl, rfl⟩ ?_
    rintro p F L ⟨hp, hlt, rfl, rfl⟩
    refine VSt.run tb_ok false [] 200 rfl trivial ?_
    first | refine VSt.splitO 53 rfl (fun g1 => ?_) (fun g1 => ?_) | refine VSt.splitD 53 rfl (fun g1 => ?_) (fun g1 => ?_)
    all_goals
      first
        | (
            have hp1 : p < s.copies.length := by have := of_decide_eq_true g1; simp only [Int.ofNat_eq_natCast] at this; omega
            refine VSt.run tb_ok false [] 200 rfl (⟨hp1, rfl⟩) ?_
            refine VSt.cond rfl (fun g2 => ?_) (fun g2 => ?_)
            · refine VSt.run tb_ok false [] 200 rfl ((by show inR _; unfold inR; simp only [Int.ofNat_eq_natCast]; omega)) ?_
              refine ⟨p + 1, _, _, (by (refine Vw.sub' (subK (by repeat (first | exact sk_nil | refine sk_cons rfl ?_))))), ⟨hp1, fun k hk => ?_, rfl, rfl⟩, by omega⟩
              by_cases e : k = p
              · subst e; exact of_decide_eq_true g2
              · exact hlt k (by omega)
            have hpos : posI s.copies c.id = p := pos_eq hp hlt (fun _ => of_decide_eq_false g2)
            refine VSt.run tb_ok false [71] 200 rfl (⟨Nat.zero_le _, hp, fun k hk => rfl⟩) ?_
          )
        | (
            have hpos : posI s.copies c.id = p := pos_eq hp hlt (fun h => absurd (of_decide_eq_false g1) (by simp only [Int.ofNat_eq_natCast]; omega))
            refine VSt.run tb_ok false [71] 200 rfl (⟨Nat.zero_le _, hp, fun k hk => rfl⟩) ?_
          )
    all_goals
      by_cases hp0 : p = 0
    all_goals
      first
        | refine VSt.run tb_ok true [74] 200 rfl ((show p - 0 = 0 by omega)) ?_
        | refine VSt.run tb_ok false [74] 200 rfl (⟨(show 0 < p - 0 by omega), by omega, fun q hq => rfl, rfl, rfl, by omega, Nat.le_refl _⟩) ?_
    all_goals
      refine VSt.run tb_ok false [79] 200 rfl (⟨by decide, by omega, (fun q hq => by match q, hq with | 0, _ => rfl), rfl, rfl, by omega, by omega, hp, Nat.le_refl _, fun k hk => rfl⟩) ?_
    all_goals
      by_cases hr : p = s.copies.length
    all_goals
      try (exfalso; omega)
    all_goals
      first
        | refine VSt.run tb_ok true [81] 200 rfl ((show s.copies.length - p = 0 by omega)) ?_
        | refine VSt.run tb_ok false [81] 200 rfl (⟨(show 0 < s.copies.length - p by omega), by omega, fun q hq => rfl, rfl, rfl, by omega, (by show _ ≤ _; omega)⟩) ?_
  all_goals
    have hN : (insAt s.copies c p).length = s.copies.length + 1 := ins_len _ _ hp
    refine VSt.viewO (F0 := [(2, .ref 0 0), (4, .ref 2 0)]) (L0 := [(0, .cells [.sl 1 2 0 (s.copies.length + 1) (s.copies.length + 1) 0, iv s.costs.lose, iv s.costs.gain, iv s.costs.like, iv s.costs.turn, .p (eNevers s.nn s.never)] 27), (1, .arr (s.copies.length + 1) 2 (fCopies (insAt s.copies c p)) 44), (2, zeroS)]) ?_ ?_
    · first
        | (have g1 : p = 0 := hp0; have g2 : p = s.copies.length := hr; exact Wk.vw (ps := [(0, 0), (1, 4), (2, 2)]) ⟨rfl, rfl, (by repeat (first | exact wf_nil | refine wf_back rfl rfl rfl ?_)), _, rfl, ⟨rfl, BImp.cells ⟨AImp.slE (by omega) (by omega), AImp.refl _, AImp.refl _, AImp.refl _, AImp.refl _, AImp.refl _, trivial⟩, rfl, BImp.arr' (by omega) (fun q hq => insA s.copies c p hp0 hr q hq), rfl, BImp.refl _, trivial⟩⟩)
        | (have g1 : p = 0 := hp0; have g2 : ¬ p = s.copies.length := hr; exact Wk.vw (ps := [(0, 0), (1, 5), (2, 2)]) ⟨rfl, rfl, (by repeat (first | exact wf_nil | refine wf_back rfl rfl rfl ?_)), _, rfl, ⟨rfl, BImp.cells ⟨AImp.slE (by omega) (by omega), AImp.refl _, AImp.refl _, AImp.refl _, AImp.refl _, AImp.refl _, trivial⟩, rfl, BImp.arr' (by omega) (fun q hq => insB s.copies c p hp0 hp q hq), rfl, BImp.refl _, trivial⟩⟩)
        | (have g1 : ¬ p = 0 := hp0; have g2 : p = s.copies.length := hr; exact Wk.vw (ps := [(0, 0), (1, 5), (2, 2)]) ⟨rfl, rfl, (by repeat (first | exact wf_nil | refine wf_back rfl rfl rfl ?_)), _, rfl, ⟨rfl, BImp.cells ⟨AImp.slE (by omega) (by omega), AImp.refl _, AImp.refl _, AImp.refl _, AImp.refl _, AImp.refl _, trivial⟩, rfl, BImp.arr' (by omega) (fun q hq => insC s.copies c p hp q hq), rfl, BImp.refl _, trivial⟩⟩)
        | (have g1 : ¬ p = 0 := hp0; have g2 : ¬ p = s.copies.length := hr; exact Wk.vw (ps := [(0, 0), (1, 6), (2, 2)]) ⟨rfl, rfl, (by repeat (first | exact wf_nil | refine wf_back rfl rfl rfl ?_)), _, rfl, ⟨rfl, BImp.cells ⟨AImp.slE (by omega) (by omega), AImp.refl _, AImp.refl _, AImp.refl _, AImp.refl _, AImp.refl _, trivial⟩, rfl, BImp.arr' (by omega) (fun q hq => insD s.copies c p hp q hq), rfl, BImp.refl _, trivial⟩⟩)
    refine VSt.viewO (Vw.freeze 1 rfl rfl ⟨Nat.le_of_eq (Nat.zero_add _), Nat.le_refl _, rfl⟩) ?_
    refine VSt.run tb_ok false [] 200 rfl trivial ?_
    refine ⟨rfl, _, rfl, rfl, ?_⟩
    rw [e0, show withS s c = _ by unfold withS; rw [if_pos e0], hpos]
    refine AImp.tup ⟨AImp.agg ⟨?_, AImp.refl _, AImp.refl _, AImp.refl _, AImp.refl _, AImp.refl _, trivial⟩, AImp.refl _, trivial⟩
    show AImp _ (.p (.lst _ false (insAt s.copies c p).length _))
    rw [hN]
    exact AImp.lst fun k hk => by rw [Nat.zero_add]; rfl
end Go.Proofs.YtncpeobcgmkkbaaGreat
/- Walks: copies and nevers taken away. -/
set_option maxRecDepth 100000
namespace Go.Proofs.YtncpeobcgmkkbaaGreat
variable {r : Tr (List Value × TypeId)}
def idxG {α : Type} (l : List α) (p : α → Bool) : Int := match l.findIdx? p with
  | some k => k
  | none => -1
section
variable {α : Type} [Inhabited α]
theorem getG {l : List α} {k : Nat} (h : k < l.length) : l.getD k default = l[k] := by
  rw [List.getD_eq_getElem?_getD, List.getElem?_eq_getElem h]; rfl
theorem idxG_hit {l : List α} {k : Nat} {p : α → Bool} (hk : k < l.length) (h : p (l.getD k default) = true) (hb : ∀ i, i < k → p (l.getD i default) = false) : idxG l p = k := by
  unfold idxG
  have : l.findIdx? p = some k := by
    rw [List.findIdx?_eq_some_iff_getElem]
    refine ⟨hk, by rw [getG hk] at h; exact h, fun j hj => ?_⟩
    have := hb j hj
    rw [getG (by omega)] at this
    simp [this]
  rw [this]
theorem idxG_miss {l : List α} {p : α → Bool} (hb : ∀ i, i < l.length → p (l.getD i default) = false) : idxG l p = -1 := by
  unfold idxG
  have : l.findIdx? p = none := by
    rw [List.findIdx?_eq_none_iff]
    intro x hx
    obtain ⟨k, hk, rfl⟩ := List.mem_iff_getElem.1 hx
    have := hb k hk
    rwa [getG hk] at this
  rw [this]
theorem idxG_first {l : List α} {p : α → Bool} {k : Nat} (h : idxG l p = Int.ofNat k) : k < l.length ∧ p (l.getD k default) = true ∧ ∀ i, i < k → p (l.getD i default) = false := by
  unfold idxG at h
  cases hf : l.findIdx? p with
  | none => rw [hf] at h; exact absurd h (by intro h; cases h)
  | some i =>
    rw [hf] at h
    have : i = k := Int.ofNat_inj.1 h
    subst this
    rw [List.findIdx?_eq_some_iff_getElem] at hf
    obtain ⟨h1, h2, h3⟩ := hf
    refine ⟨h1, by rw [getG h1]; exact h2, fun j hj => ?_⟩
    rw [getG (by omega)]
    simpa using h3 j hj
omit [Inhabited α] in
theorem idxG_neg {l : List α} {p : α → Bool} (h : idxG l p = -1) : l.filter (fun x => !p x) = l := by
  unfold idxG at h
  cases hf : l.findIdx? p with
  | some i => rw [hf] at h; exact absurd h (by intro h; cases h)
  | none =>
    rw [List.findIdx?_eq_none_iff] at hf
    exact List.filter_eq_self.2 fun x hx => by rw [hf x hx]; rfl
omit [Inhabited α] in
theorem idxG_cases (l : List α) (p : α → Bool) : idxG l p = -1 ∨ ∃ k, idxG l p = Int.ofNat k := by
  unfold idxG
  split
  · exact .inr ⟨_, rfl⟩
  · exact .inl rfl
theorem takeG_succ (l : List α) {k : Nat} (h : k < l.length) : l.take (k + 1) = l.take k ++ [l.getD k default] := by
  rw [List.take_add_one, getG h, List.getElem?_eq_getElem h]; rfl
theorem filtG_succ (l : List α) (q : α → Bool) {k : Nat} (h : k < l.length) : (l.take (k + 1)).filter q = bif q (l.getD k default) then (l.take k).filter q ++ [l.getD k default] else (l.take k).filter q := by
  rw [takeG_succ l h, List.filter_append]
  cases hq : q (l.getD k default) with
  | true => rw [List.filter_cons_of_pos hq]; rfl
  | false => rw [List.filter_cons_of_neg (by rw [hq]; decide)]; simp
theorem takeG_keep {l : List α} {p : α → Bool} : ∀ {k : Nat}, k ≤ l.length → (∀ i, i < k → p (l.getD i default) = false) → (l.take k).filter (fun x => !p x) = l.take k
  | 0, _, _ => rfl
  | k + 1, h, hp => by
    rw [filtG_succ l _ (by omega), takeG_keep (by omega) (fun i hi => hp i (by omega)), hp k (by omega), takeG_succ l (by omega)]; rfl
/-- The state of the copying: j looked at, i kept, the elements g. -/
structure DelInv (l : List α) (p : α → Bool) (j i : Nat) (g : Nat → α) : Prop where
  le : j ≤ l.length
  lt : i < j
  len : i = ((l.take j).filter (fun x => !p x)).length
  done : ∀ q, q < i → g q = ((l.take j).filter (fun x => !p x)).getD q default
  rest : ∀ q, j ≤ q → g q = l.getD q default
theorem DelInv.start {l : List α} {p : α → Bool} {k0 : Nat} (h : k0 < l.length ∧ p (l.getD k0 default) = true ∧ ∀ i, i < k0 → p (l.getD i default) = false) : DelInv l p (k0 + 1) k0 (fun q => l.getD q default) := by
  have e1 : (l.take (k0 + 1)).filter (fun x => !p x) = l.take k0 := by
    rw [filtG_succ l _ h.1, h.2.1, takeG_keep (by omega) h.2.2]; rfl
  refine ⟨h.1, Nat.lt_succ_self _, ?_, fun q hq => ?_, fun q _ => rfl⟩
  · rw [e1, List.length_take]; omega
  · rw [e1]
    simp only [List.getD_eq_getElem?_getD]
    rw [List.getElem?_take, if_pos hq]
theorem DelInv.skip {l : List α} {p : α → Bool} {j i : Nat} {g : Nat → α} (h : DelInv l p j i g) (hj : j < l.length) (hp : p (l.getD j default) = true) : DelInv l p (j + 1) i g := by
  have e1 : (l.take (j + 1)).filter (fun x => !p x) = (l.take j).filter (fun x => !p x) := by
    rw [filtG_succ l _ hj, hp]; rfl
  exact ⟨hj, Nat.lt_succ_of_lt h.lt, by rw [e1]; exact h.len, fun q hq => by rw [e1]; exact h.done q hq, fun q h1 => h.rest q (by omega)⟩
theorem DelInv.keep {l : List α} {p : α → Bool} {j i : Nat} {g : Nat → α} (h : DelInv l p j i g) (hj : j < l.length) (hp : p (l.getD j default) = false) : DelInv l p (j + 1) (i + 1) (fun q => if q = i then g j else g q) := by
  have e1 : (l.take (j + 1)).filter (fun x => !p x) = (l.take j).filter (fun x => !p x) ++ [l.getD j default] := by
    rw [filtG_succ l _ hj, hp]; rfl
  have hij := h.lt
  refine ⟨hj, by omega, by rw [e1, List.length_append, ← h.len]; rfl, fun q hq => ?_, fun q h1 => ?_⟩
  · rw [e1]
    simp only [List.getD_eq_getElem?_getD]
    by_cases c : q = i
    · subst c
      rw [if_pos rfl, List.getElem?_append_right (by rw [← h.len]; exact Nat.le_refl _), ← h.len, Nat.sub_self, h.rest j (Nat.le_refl _)]; rfl
    · rw [if_neg c, List.getElem?_append_left (by rw [← h.len]; omega), h.done q (by omega), List.getD_eq_getElem?_getD]
  · show (if q = i then _ else _) = _
    rw [if_neg (by omega), h.rest q (by omega)]
theorem DelInv.all {l : List α} {p : α → Bool} {i : Nat} {g : Nat → α} (h : DelInv l p l.length i g) : i = (l.filter (fun x => !p x)).length ∧ ∀ q, q < i → g q = (l.filter (fun x => !p x)).getD q default := by
  have h1 := h.len
  have h2 := h.done
  rw [List.take_length] at h1 h2
  exact ⟨h1, h2⟩
end
theorem without1_ok (c : Copy) (id : Int) : VP (sE r) 108 [.agg ((eCopy c).map .p), .p (.fp [.int .i64 id] 0)] (bv (c.id == id)) := by
  refine VP.of (fn := Tryz.f108) tb_ok rfl (by kernel_rfl) rfl rfl rfl ?_
  refine VSt.run tb_ok false [] 200 rfl trivial ?_
  exact EndsP.mk rfl rfl rfl rfl
theorem without2_ok (c : Never) (id : Int) : VP (sE r) 110 [.agg ((eNever c).map .p), .p (.fp [.int .i64 id] 0)] (bv (c.src == id || c.dst == id)) := by
  refine VP.of (fn := Tryz.f110) tb_ok rfl (by kernel_rfl) rfl rfl rfl ?_
  refine VSt.run tb_ok false [] 200 rfl trivial ?_
  first | refine VSt.splitO 8 rfl (fun h => ?_) (fun h => ?_) | refine VSt.splitD 8 rfl (fun h => ?_) (fun h => ?_)
  · refine VSt.run tb_ok false [] 200 rfl trivial ?_
    refine EndsP.mk rfl rfl rfl ?_
    show bv _ = bv _
    rw [h]; rfl
  · refine VSt.run tb_ok false [] 200 rfl trivial ?_
    refine EndsP.mk rfl rfl rfl ?_
    show bv _ = bv _
    rw [h]; rfl
theorem idxNever_ok {b : Bool} {l : List Never} {f : Nat} {first cap : List AV} {p : Never → Bool} (hn : l.length < 9223372036854775808) (hon : (AV.fn f first cap).only (olds []) = true) (hoc : ∀ x, AV.onlys (olds []) (first ++ ([.agg ((eNever x).map .p)] ++ cap)) = true) (hf : ∀ x, VP (sE r) f (first ++ ([.agg ((eNever x).map .p)] ++ cap)) (bv (p x))) :
    VP (sE r) 131 [.p (eNevers b l), .fn f first cap] (iv (idxG l p)) := by
  refine VP.of (fn := Tryz.f131) tb_ok rfl (by kernel_rfl) rfl rfl rfl ?_
  refine VSt.run tb_ok false [] 200 rfl trivial ?_
  refine VSt.rangeF tb_ok l.length (by omega) (fun _ => [(0, .p (eNevers b l)), (1, .fn f first cap)]) (fun _ => []) (fun k => ∀ i, i < k → p (l.getD i default) = false) rfl rfl (fun _ => rfl) ?_ (fun i hi => absurd hi (Nat.not_lt_zero i)) (fun k hk hp => ?_) (fun hp => ?_)
  · (refine Vw.drop (by repeat (first | exact wf_nil | refine wf_back rfl rfl rfl ?_ | refine wf_cons rfl (by assumption) (ren_only _ (by assumption)) ?_)))
  · refine VSt.run tb_ok false [] 200 rfl (⟨hk, rfl⟩) ?_
    refine VSt.pcall (hf (l.getD k default)) rfl rfl rfl rfl rfl rfl (hoc _) ?_
    refine VSt.run tb_ok false [] 200 rfl trivial ?_
    refine VSt.cond rfl (fun hc => ?_) (fun hc => ?_)
    · refine VSt.run tb_ok false [] 200 rfl trivial ?_
      refine EndsP.mk rfl rfl rfl ?_
      rw [idxG_hit hk hc hp]; rfl
    · refine VSt.run tb_ok false [] 200 rfl trivial ?_
      refine ⟨by (refine Vw.drop (by repeat (first | exact wf_nil | refine wf_back rfl rfl rfl ?_ | refine wf_cons rfl (by assumption) (ren_only _ (by assumption)) ?_))), fun i hi => ?_⟩
      by_cases e : i = k
      · subst e; exact hc
      · exact hp i (by omega)
  · refine VSt.run tb_ok false [] 200 rfl trivial ?_
    refine EndsP.mk rfl rfl rfl ?_
    rw [idxG_miss hp]; rfl
theorem idxC_eq (l : List Copy) (p : Copy → Bool) : idxC l p = idxG l p := rfl
def isId (id : Int) (c : Copy) : Bool := c.id == id
def hasId (id : Int) (c : Never) : Bool := c.src == id || c.dst == id
theorem putCopy (g : Nat → Copy) (i j q : Nat) : (bif Nat.beq q i then ppaste (eCopy (g i)) 0 (eCopy (g j)) else eCopy (g q)) = eCopy (if q = i then g j else g q) := by
  by_cases h : q = i
  · subst h; rw [if_pos rfl, Nat.beq_refl]; rfl
  · rw [if_neg h, beq_ne h]; rfl
theorem delCopy_ok {nb : Bool} {l : List Copy} {id : Int} (hn : l.length ≤ 1000) :
    VC (sE r) [0] 107 [.acc nb 0 2 l.length, .fn 108 [] [.p (.fp [.int .i64 id] 0)]] [(0, .acc l.length 2 (fCopies l) 44)]
      (fun a L => (idxG l (isId id) = -1 ∧ a = .acc nb 0 2 l.length ∧ L = [(0, .acc l.length 2 (fCopies l) 44)]) ∨
        (¬ idxG l (isId id) = -1 ∧ ∃ G : Nat → List PV, (l.filter (fun x => !isId id x)).length < l.length ∧ (∀ q, q < (l.filter (fun x => !isId id x)).length → G q = eCopy ((l.filter (fun x => !isId id x)).getD q default)) ∧ a = .sl 0 2 0 (l.filter (fun x => !isId id x)).length l.length 0 ∧ L = [(0, .arr l.length 2 G 44)])) := by
  refine VC.of (fn := Tryz.f107) tb_ok rfl (by kernel_rfl) rfl rfl ?_
  refine VSt.run tb_ok false [] 200 rfl trivial ?_
  refine VSt.bcall (Vw.trans (Vw.sub' (F0 := [(8, .acc nb 0 2 l.length), (9, .fn 108 [] [.p (.fp [.int .i64 id] 0)])]) (subK (by repeat (first | exact sk_nil | refine sk_cons rfl ?_)))) (Vw.freezeA 0 rfl rfl ⟨Nat.le_refl _, rfl⟩)) rfl rfl rfl rfl rfl rfl rfl (idxCopy_ok (first := []) (cap := [.p (.fp [.int .i64 id] 0)]) (p := isId id) (by omega) rfl (fun _ => rfl) (fun x => without1_ok x id)) rfl ?_
  refine VSt.run tb_ok false [] 200 rfl trivial ?_
  refine VSt.cond rfl (fun h => ?_) (fun h => ?_)
  · have h : idxG l (isId id) = -1 := eq_of_beq h
    refine VSt.run tb_ok false [] 200 rfl trivial ?_
    exact ⟨rfl, _, [(0, 0)], _, _, rfl, ⟨rfl, rfl, wf_imp rfl rfl (AImp.refl _) wf_nil, _, rfl, LImp.refl _⟩, .inl ⟨h, rfl, rfl⟩⟩
  have h : ¬ idxG l (isId id) = -1 := ne_of_beq_false h
  refine Exists.elim ((idxG_cases l (isId id)).resolve_left h) fun k0 hk0 => ?_
  have hfst := idxG_first hk0
  have i0 : inR (Int.ofNat k0 + 1) := by unfold inR; simp only [Int.ofNat_eq_natCast]; omega
  first | refine VSt.putO 5 (nv k0) rfl (iv_nv hk0) ?_ | refine VSt.putD 5 (nv k0) rfl (iv_nv hk0) ?_ | refine VSt.putC 5 (nv k0) rfl (iv_nv hk0) ?_
  refine VSt.run tb_ok false [] 200 rfl (i0) ?_
  refine VSt.loop (α := Nat × Nat × (Nat → Copy)) (fun x F L => DelInv l (isId id) x.1 x.2.1 x.2.2 ∧
      F = [(0, .acc nb 0 2 l.length), (1, .fn 108 [] [.p (.fp [.int .i64 id] 0)]), (5, nv x.2.1), (6, nv x.1)] ∧ L = [(0, .acc l.length 2 (fun q => eCopy (x.2.2 q)) 44)]) (fun x => l.length - x.1) (k0 + 1, k0, fun q => l.getD q default) ?_ ⟨DelInv.start hfst, rfl, rfl⟩ ?_
  · (refine Vw.sub' (subK (by repeat (first | exact sk_nil | refine sk_cons rfl ?_))))
  rintro ⟨j, i, g⟩ F L ⟨hI, rfl, rfl⟩
  have hI : DelInv l (isId id) j i g := hI
  have h1 := hI.le
  have h2 := hI.lt
  refine VSt.run tb_ok false [] 200 rfl trivial ?_
  refine VSt.cond rfl (fun hc => ?_) (fun hc => ?_)
  · have hj : j < l.length := by have := of_decide_eq_true hc; simp only [Int.ofNat_eq_natCast] at this; omega
    have ij : inR (Int.ofNat j + 1) := by unfold inR; simp only [Int.ofNat_eq_natCast]; omega
    have ii : inR (Int.ofNat i + 1) := by unfold inR; simp only [Int.ofNat_eq_natCast]; omega
    have eg : g j = l.getD j default := hI.rest j (Nat.le_refl _)
    refine VSt.run tb_ok false [] 200 rfl (⟨hj, rfl, hj, rfl⟩) ?_
    first | refine VSt.pc rfl rfl rfl rfl rfl rfl rfl rfl ((without1_ok (g j) id)) ?_ | refine VSt.pcD rfl rfl rfl rfl rfl rfl rfl rfl ((without1_ok (g j) id)) ?_
    refine VSt.run tb_ok false [] 200 rfl trivial ?_
    refine VSt.cond rfl (fun hd => ?_) (fun hd => ?_)
    · have hd : isId id (l.getD j default) = false := by rw [← eg]; exact (Bool.not_eq_true' _).mp hd
      refine VSt.run tb_ok false [] 200 rfl (⟨(show i < l.length by omega), rfl, (show i < l.length by omega), rfl, Nat.le_refl _, ii, ij⟩) ?_
      exact ⟨(j + 1, i + 1, fun q => if q = i then g j else g q), _, _, Vw.trans (Vw.sub' (F0 := [(0, .acc nb 0 2 l.length), (1, .fn 108 [] [.p (.fp [.int .i64 id] 0)]), (5, nv (i + 1)), (6, nv (j + 1))]) (subK (by repeat (first | exact sk_nil | refine sk_cons rfl ?_)))) (Wk.vw (ps := [(0, 0)]) (F0 := [(0, .acc nb 0 2 l.length), (1, .fn 108 [] [.p (.fp [.int .i64 id] 0)]), (5, nv (i + 1)), (6, nv (j + 1))]) (L0 := [(0, .acc l.length 2 (fun q => eCopy (if q = i then g j else g q)) 44)]) ⟨rfl, rfl, (by repeat (first | exact wf_nil | refine wf_back rfl rfl rfl ?_)), _, rfl, ⟨rfl, BImp.acc rfl (fun q hq => putCopy g i j q), trivial⟩⟩), ⟨hI.keep hj hd, rfl, rfl⟩, by show l.length - (j + 1) < l.length - j; omega⟩
    · have hd : isId id (l.getD j default) = true := by rw [← eg]; exact (Bool.not_eq_false' _).mp hd
      refine VSt.run tb_ok false [] 200 rfl (ij) ?_
      exact ⟨(j + 1, i, g), _, _, Wk.vw (ps := [(0, 0)]) (F0 := [(0, .acc nb 0 2 l.length), (1, .fn 108 [] [.p (.fp [.int .i64 id] 0)]), (5, nv i), (6, nv (j + 1))]) (L0 := [(0, .acc l.length 2 (fun q => eCopy (g q)) 44)]) ⟨rfl, rfl, (by repeat (first | exact wf_nil | refine wf_back rfl rfl rfl ?_)), _, rfl, LImp.refl _⟩, ⟨hI.skip hj hd, rfl, rfl⟩, by show l.length - (j + 1) < l.length - j; omega⟩
  · have hj : j = l.length := by have := of_decide_eq_false hc; simp only [Int.ofNat_eq_natCast] at this; omega
    subst hj
    have ha := hI.all
    have hpos : 0 < l.length := by omega
    have h1' : i ≤ l.length := Nat.le_of_lt h2
    refine VSt.viewC (Wk.vw (ps := [(0, 0)]) (F0 := [(0, .sl 0 2 0 l.length l.length 0), (5, nv i)]) (L0 := [(0, .arr l.length 2 (fun q => eCopy (g q)) 44)]) ⟨rfl, rfl, wf_imp rfl rfl (AImp.accSl hpos rfl rfl) (wf_back rfl rfl rfl wf_nil), _, rfl, ⟨rfl, BImp.accArr hpos rfl (fun q hq => rfl), trivial⟩⟩) ?_
    refine VSt.run tb_ok false [] 200 rfl (⟨h1', Nat.le_refl _, .inl h2, rfl, (by show 0 + i + (l.length - i) ≤ l.length; omega), rfl, rfl, Nat.zero_le _, h1', .inr rfl, rfl⟩) ?_
    refine ⟨rfl, _, [(0, 0)], _, _, rfl, ⟨rfl, rfl, wf_imp rfl rfl (AImp.slE (by omega) (by omega)) wf_nil, _, rfl, LImp.refl _⟩, .inr ⟨h, _, by rw [← ha.1]; exact h2, fun q hq => ?_, rfl, rfl⟩⟩
    rw [← ha.1] at hq
    show (bif Nat.ble (0 + i) q && Nat.blt q (0 + i + (l.length - i)) then _ else eCopy (g q)) = _
    rw [show Nat.ble (0 + i) q = false from by rw [← Bool.not_eq_true]; intro hb; have := Nat.le_of_ble_eq_true hb; omega]
    rw [← ha.2 q hq]; rfl
theorem putNever (g : Nat → Never) (i j q : Nat) : (bif Nat.beq q i then ppaste (eNever (g i)) 0 (eNever (g j)) else eNever (g q)) = eNever (if q = i then g j else g q) := by
  by_cases h : q = i
  · subst h; rw [if_pos rfl, Nat.beq_refl]; rfl
  · rw [if_neg h, beq_ne h]; rfl
theorem delNever_ok {nb : Bool} {l : List Never} {id : Int} (hn : l.length ≤ 1000) :
    VC (sE r) [0] 109 [.acc nb 0 2 l.length, .fn 110 [] [.p (.fp [.int .i64 id] 0)]] [(0, .acc l.length 2 (fNevers l) 57)]
      (fun a L => (idxG l (hasId id) = -1 ∧ a = .acc nb 0 2 l.length ∧ L = [(0, .acc l.length 2 (fNevers l) 57)]) ∨
        (¬ idxG l (hasId id) = -1 ∧ ∃ G : Nat → List PV, (l.filter (fun x => !hasId id x)).length < l.length ∧ (∀ q, q < (l.filter (fun x => !hasId id x)).length → G q = eNever ((l.filter (fun x => !hasId id x)).getD q default)) ∧ a = .sl 0 2 0 (l.filter (fun x => !hasId id x)).length l.length 0 ∧ L = [(0, .arr l.length 2 G 57)])) := by
  refine VC.of (fn := Tryz.f109) tb_ok rfl (by kernel_rfl) rfl rfl ?_
  refine VSt.run tb_ok false [] 200 rfl trivial ?_
  refine VSt.bcall (Vw.trans (Vw.sub' (F0 := [(8, .acc nb 0 2 l.length), (9, .fn 110 [] [.p (.fp [.int .i64 id] 0)])]) (subK (by repeat (first | exact sk_nil | refine sk_cons rfl ?_)))) (Vw.freezeA 0 rfl rfl ⟨Nat.le_refl _, rfl⟩)) rfl rfl rfl rfl rfl rfl rfl (idxNever_ok (first := []) (cap := [.p (.fp [.int .i64 id] 0)]) (p := hasId id) (by omega) rfl (fun _ => rfl) (fun x => without2_ok x id)) rfl ?_
  refine VSt.run tb_ok false [] 200 rfl trivial ?_
  refine VSt.cond rfl (fun h => ?_) (fun h => ?_)
  · have h : idxG l (hasId id) = -1 := eq_of_beq h
    refine VSt.run tb_ok false [] 200 rfl trivial ?_
    exact ⟨rfl, _, [(0, 0)], _, _, rfl, ⟨rfl, rfl, wf_imp rfl rfl (AImp.refl _) wf_nil, _, rfl, LImp.refl _⟩, .inl ⟨h, rfl, rfl⟩⟩
  have h : ¬ idxG l (hasId id) = -1 := ne_of_beq_false h
  refine Exists.elim ((idxG_cases l (hasId id)).resolve_left h) fun k0 hk0 => ?_
  have hfst := idxG_first hk0
  have i0 : inR (Int.ofNat k0 + 1) := by unfold inR; simp only [Int.ofNat_eq_natCast]; omega
  first | refine VSt.putO 5 (nv k0) rfl (iv_nv hk0) ?_ | refine VSt.putD 5 (nv k0) rfl (iv_nv hk0) ?_ | refine VSt.putC 5 (nv k0) rfl (iv_nv hk0) ?_
  refine VSt.run tb_ok false [] 200 rfl (i0) ?_
  refine VSt.loop (α := Nat × Nat × (Nat → Never)) (fun x F L => DelInv l (hasId id) x.1 x.2.1 x.2.2 ∧
      F = [(0, .acc nb 0 2 l.length), (1, .fn 110 [] [.p (.fp [.int .i64 id] 0)]), (5, nv x.2.1), (6, nv x.1)] ∧ L = [(0, .acc l.length 2 (fun q => eNever (x.2.2 q)) 57)]) (fun x => l.length - x.1) (k0 + 1, k0, fun q => l.getD q default) ?_ ⟨DelInv.start hfst, rfl, rfl⟩ ?_
  · (refine Vw.sub' (subK (by repeat (first | exact sk_nil | refine sk_cons rfl ?_))))
  rintro ⟨j, i, g⟩ F L ⟨hI, rfl, rfl⟩
  have hI : DelInv l (hasId id) j i g := hI
  have h1 := hI.le
  have h2 := hI.lt
  refine VSt.run tb_ok false [] 200 rfl trivial ?_
  refine VSt.cond rfl (fun hc => ?_) (fun hc => ?_)
  · have hj : j < l.length := by have := of_decide_eq_true hc; simp only [Int.ofNat_eq_natCast] at this; omega
    have ij : inR (Int.ofNat j + 1) := by unfold inR; simp only [Int.ofNat_eq_natCast]; omega
    have ii : inR (Int.ofNat i + 1) := by unfold inR; simp only [Int.ofNat_eq_natCast]; omega
    have eg : g j = l.getD j default := hI.rest j (Nat.le_refl _)
    refine VSt.run tb_ok false [] 200 rfl (⟨hj, rfl, hj, rfl⟩) ?_
    first | refine VSt.pc rfl rfl rfl rfl rfl rfl rfl rfl ((without2_ok (g j) id)) ?_ | refine VSt.pcD rfl rfl rfl rfl rfl rfl rfl rfl ((without2_ok (g j) id)) ?_
    refine VSt.run tb_ok false [] 200 rfl trivial ?_
    refine VSt.cond rfl (fun hd => ?_) (fun hd => ?_)
    · have hd : hasId id (l.getD j default) = false := by rw [← eg]; exact (Bool.not_eq_true' _).mp hd
      refine VSt.run tb_ok false [] 200 rfl (⟨(show i < l.length by omega), rfl, (show i < l.length by omega), rfl, Nat.le_refl _, ii, ij⟩) ?_
      exact ⟨(j + 1, i + 1, fun q => if q = i then g j else g q), _, _, Vw.trans (Vw.sub' (F0 := [(0, .acc nb 0 2 l.length), (1, .fn 110 [] [.p (.fp [.int .i64 id] 0)]), (5, nv (i + 1)), (6, nv (j + 1))]) (subK (by repeat (first | exact sk_nil | refine sk_cons rfl ?_)))) (Wk.vw (ps := [(0, 0)]) (F0 := [(0, .acc nb 0 2 l.length), (1, .fn 110 [] [.p (.fp [.int .i64 id] 0)]), (5, nv (i + 1)), (6, nv (j + 1))]) (L0 := [(0, .acc l.length 2 (fun q => eNever (if q = i then g j else g q)) 57)]) ⟨rfl, rfl, (by repeat (first | exact wf_nil | refine wf_back rfl rfl rfl ?_)), _, rfl, ⟨rfl, BImp.acc rfl (fun q hq => putNever g i j q), trivial⟩⟩), ⟨hI.keep hj hd, rfl, rfl⟩, by show l.length - (j + 1) < l.length - j; omega⟩
    · have hd : hasId id (l.getD j default) = true := by rw [← eg]; exact (Bool.not_eq_false' _).mp hd
      refine VSt.run tb_ok false [] 200 rfl (ij) ?_
      exact ⟨(j + 1, i, g), _, _, Wk.vw (ps := [(0, 0)]) (F0 := [(0, .acc nb 0 2 l.length), (1, .fn 110 [] [.p (.fp [.int .i64 id] 0)]), (5, nv i), (6, nv (j + 1))]) (L0 := [(0, .acc l.length 2 (fun q => eNever (g q)) 57)]) ⟨rfl, rfl, (by repeat (first | exact wf_nil | refine wf_back rfl rfl rfl ?_)), _, rfl, LImp.refl _⟩, ⟨hI.skip hj hd, rfl, rfl⟩, by show l.length - (j + 1) < l.length - j; omega⟩
  · have hj : j = l.length := by have := of_decide_eq_false hc; simp only [Int.ofNat_eq_natCast] at this; omega
    subst hj
    have ha := hI.all
    have hpos : 0 < l.length := by omega
    have h1' : i ≤ l.length := Nat.le_of_lt h2
    refine VSt.viewC (Wk.vw (ps := [(0, 0)]) (F0 := [(0, .sl 0 2 0 l.length l.length 0), (5, nv i)]) (L0 := [(0, .arr l.length 2 (fun q => eNever (g q)) 57)]) ⟨rfl, rfl, wf_imp rfl rfl (AImp.accSl hpos rfl rfl) (wf_back rfl rfl rfl wf_nil), _, rfl, ⟨rfl, BImp.accArr hpos rfl (fun q hq => rfl), trivial⟩⟩) ?_
    refine VSt.run tb_ok false [] 200 rfl (⟨h1', Nat.le_refl _, .inl h2, rfl, (by show 0 + i + (l.length - i) ≤ l.length; omega), rfl, rfl, Nat.zero_le _, h1', .inr rfl, rfl⟩) ?_
    refine ⟨rfl, _, [(0, 0)], _, _, rfl, ⟨rfl, rfl, wf_imp rfl rfl (AImp.slE (by omega) (by omega)) wf_nil, _, rfl, LImp.refl _⟩, .inr ⟨h, _, by rw [← ha.1]; exact h2, fun q hq => ?_, rfl, rfl⟩⟩
    rw [← ha.1] at hq
    show (bif Nat.ble (0 + i) q && Nat.blt q (0 + i + (l.length - i)) then _ else eNever (g q)) = _
    rw [show Nat.ble (0 + i) q = false from by rw [← Bool.not_eq_true]; intro hb; have := Nat.le_of_ble_eq_true hb; omega]
    rw [← ha.2 q hq]; rfl
end Go.Proofs.YtncpeobcgmkkbaaGreat
/- Walks: a stem without a copy. -/
set_option maxRecDepth 100000
namespace Go.Proofs.YtncpeobcgmkkbaaGreat
variable {r : Tr (List Value × TypeId)}
theorem lessC_filter (s : Stem) (id : Int) : ∀ k, k ≤ s.copies.length → lessC s id k = (s.copies.take k).filter (fun x => !isId id x)
  | 0, _ => rfl
  | k + 1, h => by
    rw [filtG_succ s.copies _ (by omega), ← lessC_filter s id k (by omega)]; rfl
theorem lessN_filter (s : Stem) (id : Int) : ∀ k, k ≤ s.never.length → lessN s id k = (s.never.take k).filter (fun x => !hasId id x)
  | 0, _ => rfl
  | k + 1, h => by
    rw [filtG_succ s.never _ (by omega), ← lessN_filter s id k (by omega), lessN, hasId, Bool.not_or]
theorem lessC_all (s : Stem) (id : Int) : lessC s id s.copies.length = s.copies.filter (fun x => !isId id x) := by
  rw [lessC_filter s id _ (Nat.le_refl _), List.take_length]
theorem lessN_all (s : Stem) (id : Int) : lessN s id s.never.length = s.never.filter (fun x => !hasId id x) := by
  rw [lessN_filter s id _ (Nat.le_refl _), List.take_length]
/-- The same, as the program makes it. -/
def lessP (s : Stem) (id : Int) : Stem := ⟨false, lessC s id s.copies.length, s.costs, if idxG s.never (hasId id) = -1 then s.nn else false, lessN s id s.never.length⟩
theorem less_eqv (s : Stem) (id : Int) : (lessP s id).Eqv (lessM s id) := ⟨rfl, rfl, rfl, fun k _ => ⟨rfl, rfl⟩, fun k _ => rfl⟩
theorem without_ok {s : Stem} (hf : s.Flags) (hv : s.Valid) (id : Int) (hid : ¬ idxG s.copies (isId id) = -1) : VP (sE r) 77 [.agg ((eStem s).map .p), iv id] (.agg ((eStem (lessP s id)).map .p)) := by
  refine VP.of (fn := Tryz.f77) tb_ok rfl (by kernel_rfl) rfl rfl rfl ?_
  refine VSt.run tb_ok false [] 200 rfl trivial ?_
  refine VSt.cc [] rfl rfl rfl rfl rfl rfl rfl rfl rfl rfl rfl (copied_ok hf hv) ?_
  rintro a L' ⟨rfl, rfl⟩
  refine VSt.run tb_ok false [] 200 rfl trivial ?_
  refine VSt.viewO (Wk.vw (ps := [(1, 1), (2, 2), (3, 3), (4, 4), (5, 5)]) (F0 := [(3, .ref 1 0), (4, .ref 2 0), (5, .ref 5 0), (9, .acc true 4 2 s.copies.length), (10, .fn 108 [] [.ref 1 0])])
    (L0 := [(1, .cells [iv id] 3), (2, zeroS), (3, .acc s.never.length 2 (fNevers s.never) 57), (4, .acc s.copies.length 2 (fCopies s.copies) 44), (5, .cells [.acc true 4 2 s.copies.length, iv s.costs.lose, iv s.costs.gain, iv s.costs.like, iv s.costs.turn, .acc s.nn 3 2 s.never.length] 27)])
    ⟨rfl, rfl, (by repeat (first | exact wf_nil | refine wf_back rfl rfl rfl ?_)), _, rfl, LImp.refl _⟩) ?_
  refine VSt.viewO (Vw.freezeC 1 [.int .i64 id] rfl rfl) ?_
  refine VSt.cc [(0, 4)] rfl rfl rfl rfl rfl rfl rfl rfl rfl rfl rfl (delCopy_ok (id := id) (by have := hv.c; omega)) ?_
  rintro a L' (⟨h, _⟩ | ⟨_, G, hm, hG, rfl, rfl⟩)
  · exact absurd h hid
  refine VSt.run tb_ok false [] 200 rfl trivial ?_
  refine VSt.viewO (Wk.vw (ps := [(2, 2), (3, 3), (4, 4), (5, 5)]) (F0 := [(4, .ref 2 0), (5, .ref 5 0), (14, .acc s.nn 3 2 s.never.length), (15, .fn 110 [] [.p (.fp [.int .i64 id] 0)])])
    (L0 := [(2, zeroS), (3, .acc s.never.length 2 (fNevers s.never) 57), (4, .arr s.copies.length 2 G 44), (5, .cells [.sl 4 2 0 (s.copies.filter (fun x => !isId id x)).length s.copies.length 0, iv s.costs.lose, iv s.costs.gain, iv s.costs.like, iv s.costs.turn, .acc s.nn 3 2 s.never.length] 27)])
    ⟨rfl, rfl, (by repeat (first | exact wf_nil | refine wf_back rfl rfl rfl ?_)), _, rfl, LImp.refl _⟩) ?_
  have hm' := Nat.le_of_lt hm
  refine VSt.viewO (Vw.freeze 4 rfl rfl ⟨by rw [Nat.zero_add]; exact hm', hm', rfl⟩) ?_
  refine VSt.cc [(0, 3)] rfl rfl rfl rfl rfl rfl rfl rfl rfl rfl rfl (delNever_ok (id := id) (by have := hv.n; omega)) ?_
  have hC : AImp (.p (.lst 44 false (s.copies.filter (fun x => !isId id x)).length fun k => G (0 + k))) (.p (eCopies false (lessC s id s.copies.length))) := by
    rw [lessC_all]
    exact AImp.lst fun k hk => by rw [Nat.zero_add]; exact hG k hk
  rintro a L' (⟨h, rfl, rfl⟩ | ⟨h, G2, hm2, hG2, rfl, rfl⟩)
  · refine VSt.viewO (Wk.vw (ps := [(2, 2), (3, 3), (5, 5)]) (F0 := [(4, .ref 2 0), (5, .ref 5 0), (16, .acc s.nn 3 2 s.never.length)])
      (L0 := [(2, zeroS), (3, .acc s.never.length 2 (fNevers s.never) 57), (5, .cells [.p (eCopies false (lessC s id s.copies.length)), iv s.costs.lose, iv s.costs.gain, iv s.costs.like, iv s.costs.turn, .acc s.nn 3 2 s.never.length] 27)])
      ⟨rfl, rfl, (by repeat (first | exact wf_nil | refine wf_back rfl rfl rfl ?_)), _, rfl, ⟨rfl, BImp.refl _, rfl, BImp.refl _, rfl, BImp.cells ⟨hC, AImp.refl _, AImp.refl _, AImp.refl _, AImp.refl _, AImp.refl _, trivial⟩, trivial⟩⟩) ?_
    refine VSt.viewO (Vw.freezeA 3 rfl rfl ⟨Nat.le_refl _, rfl, Nat.le_refl _, rfl⟩) ?_
    refine VSt.run tb_ok false [] 200 rfl trivial ?_
    refine ⟨rfl, _, rfl, rfl, ?_⟩
    refine AImp.agg ⟨AImp.refl _, AImp.refl _, AImp.refl _, AImp.refl _, AImp.refl _, ?_, trivial⟩
    have e : (lessP s id).never = s.never := by
      show lessN s id s.never.length = _
      rw [lessN_all]; exact idxG_neg h
    have e2 : (lessP s id).nn = s.nn := if_pos h
    show AImp (.p (.lst _ (s.nn && Nat.beq s.never.length 0) _ _)) (.p (eNevers (lessP s id).nn (lessP s id).never))
    rw [e, e2, nn_eq hf.n]
    exact AImp.refl _
  · refine VSt.viewO (Wk.vw (ps := [(2, 2), (3, 3), (5, 5)]) (F0 := [(4, .ref 2 0), (5, .ref 5 0), (16, .sl 3 2 0 (s.never.filter (fun x => !hasId id x)).length s.never.length 0)])
      (L0 := [(2, zeroS), (3, .arr s.never.length 2 G2 57), (5, .cells [.p (eCopies false (lessC s id s.copies.length)), iv s.costs.lose, iv s.costs.gain, iv s.costs.like, iv s.costs.turn, .acc s.nn 3 2 s.never.length] 27)])
      ⟨rfl, rfl, (by repeat (first | exact wf_nil | refine wf_back rfl rfl rfl ?_)), _, rfl, ⟨rfl, BImp.refl _, rfl, BImp.refl _, rfl, BImp.cells ⟨hC, AImp.refl _, AImp.refl _, AImp.refl _, AImp.refl _, AImp.refl _, trivial⟩, trivial⟩⟩) ?_
    have hm2' := Nat.le_of_lt hm2
    refine VSt.viewO (Vw.freeze 3 rfl rfl ⟨by rw [Nat.zero_add]; exact hm2', hm2', rfl, Nat.le_refl _, rfl⟩) ?_
    refine VSt.run tb_ok false [] 200 rfl trivial ?_
    refine ⟨rfl, _, rfl, rfl, ?_⟩
    refine AImp.agg ⟨AImp.refl _, AImp.refl _, AImp.refl _, AImp.refl _, AImp.refl _, ?_, trivial⟩
    have e : (lessP s id).never = s.never.filter (fun x => !hasId id x) := lessN_all s id
    have e2 : (lessP s id).nn = false := if_neg h
    show AImp _ (.p (eNevers (lessP s id).nn (lessP s id).never))
    rw [e, e2]
    exact AImp.lst fun k hk => by rw [Nat.zero_add]; exact hG2 k hk
def withoutP (s : Stem) (id : Int) : Stem × Int := if ckStem s = 0 then (if place s id < 0 then (noStem, 3) else (lessP s id, 0)) else (noStem, ckStem s)
theorem place_idx (s : Stem) (id : Int) : place s id = idxG s.copies (isId id) := rfl
theorem Without_ok (s : Stem) (hs : s.Ok) (hf : s.Flags) (id : Int) : VP (sE r) 40 [.agg ((eStem s).map .p), iv id] (.tup [.agg ((eStem (withoutP s id).1).map .p), iv (withoutP s id).2]) := by
  refine VP.of (fn := Tryz.f40) tb_ok rfl (by kernel_rfl) rfl rfl rfl ?_
  refine VSt.run tb_ok false [] 200 rfl trivial ?_
  first | refine VSt.pc rfl rfl rfl rfl rfl rfl rfl rfl ((check_ok s hs)) ?_ | refine VSt.pcD rfl rfl rfl rfl rfl rfl rfl rfl ((check_ok s hs)) ?_
  refine VSt.run tb_ok false [] 200 rfl trivial ?_
  refine VSt.cond rfl (fun h1 => ?_) (fun h1 => ?_)
  · refine VSt.run tb_ok false [] 200 rfl trivial ?_
    have : ¬ ckStem s = 0 := by simpa using h1
    refine ⟨rfl, _, rfl, rfl, ?_⟩
    rw [show withoutP s id = (noStem, ckStem s) by unfold withoutP; rw [if_neg this]]
    exact no_imp _
  have h1 : ckStem s = 0 := by simpa using h1
  have hv := valid_of h1
  refine VSt.run tb_ok false [] 200 rfl trivial ?_
  first | refine VSt.pc rfl rfl rfl rfl rfl rfl rfl rfl ((index_ok s id hs.c)) ?_ | refine VSt.pcD rfl rfl rfl rfl rfl rfl rfl rfl ((index_ok s id hs.c)) ?_
  refine VSt.run tb_ok false [] 200 rfl trivial ?_
  refine VSt.cond rfl (fun h2 => ?_) (fun h2 => ?_)
  · refine VSt.run tb_ok false [] 200 rfl trivial ?_
    have h2 : place s id < 0 := of_decide_eq_true h2
    refine ⟨rfl, _, rfl, rfl, ?_⟩
    rw [show withoutP s id = (noStem, 3) by unfold withoutP; rw [if_pos h1, if_pos h2]]
    exact no_imp _
  have h2 : ¬ place s id < 0 := of_decide_eq_false h2
  refine VSt.run tb_ok false [] 200 rfl trivial ?_
  first | refine VSt.pc rfl rfl rfl rfl rfl rfl rfl rfl ((without_ok hf hv id (fun h => h2 (by rw [place_idx, h]; decide)))) ?_ | refine VSt.pcD rfl rfl rfl rfl rfl rfl rfl rfl ((without_ok hf hv id (fun h => h2 (by rw [place_idx, h]; decide)))) ?_
  refine VSt.run tb_ok false [] 200 rfl trivial ?_
  refine EndsP.mk rfl rfl rfl ?_
  rw [show withoutP s id = (lessP s id, 0) by unfold withoutP; rw [if_pos h1, if_neg h2]]; rfl
theorem without_eqv (s : Stem) (id : Int) : (withoutP s id).1.Eqv (withoutM s id).1 ∧ (withoutP s id).2 = (withoutM s id).2 := by
  unfold withoutP withoutM
  split
  · split
    · exact ⟨⟨rfl, rfl, rfl, fun k _ => ⟨rfl, rfl⟩, fun k _ => rfl⟩, rfl⟩
    · exact ⟨less_eqv s id, rfl⟩
  · exact ⟨⟨rfl, rfl, rfl, fun k _ => ⟨rfl, rfl⟩, fun k _ => rfl⟩, rfl⟩
end Go.Proofs.YtncpeobcgmkkbaaGreat
/- Walks: the law of checks. -/
set_option maxRecDepth 100000
namespace Go.Proofs.YtncpeobcgmkkbaaGreat
variable {r : Tr (List Value × TypeId)}
theorem VP.hook {E : Env} {f : FuncId} (hk : hookL E f [] = true) : VP E f [] (bv true) :=
  ⟨rfl, fun S Z j vs hS hv hl => by
    cases hv
    exact ⟨1, .bool true, S, fun m hm => by
      obtain ⟨k, rfl, _⟩ := le_succ_ex hm
      show bf (hookL E f []) _ _ = _
      rw [hk]; rfl, bv true, [], Z, j, hS, .p (.bool true), Ex.refl _ _ _, hl, Stay.refl _ _, rfl, rfl⟩⟩
theorem Stem.Eqv.refl (s : Stem) : s.Eqv s := ⟨rfl, rfl, rfl, fun k _ => ⟨rfl, rfl⟩, fun k _ => rfl⟩
theorem noStem_ok : noStem.Ok := ⟨by decide, fun k hk => absurd hk (Nat.not_lt_zero k), by decide⟩
theorem withS_ok {s : Stem} {c : Copy} (hs : s.Ok) (hl : c.words.length < 9223372036854775808) : (withS s c).Ok := by
  unfold withS
  by_cases h : withE s c = 0
  · rw [if_pos h]
    have h0 : ckStem s = 0 := by
      unfold withE at h
      by_cases h1 : ckStem s = 0
      · exact h1
      · rw [if_neg h1] at h; exact absurd h h1
    have hv := valid_of h0
    have hp := posI_le s.copies c.id
    have hlen := ins_len s.copies c hp
    refine ⟨?_, fun k hk => ?_, hs.n⟩
    · show (insAt s.copies c (posI s.copies c.id)).length < _
      have := hv.c; omega
    · have hk : k < (insAt s.copies c (posI s.copies c.id)).length := hk
      show ((insAt s.copies c (posI s.copies c.id)).getD k default).words.length < _
      rw [ins_at _ _ hp]
      split
      · exact hs.w k (by omega)
      · split
        · exact hl
        · exact hs.w (k - 1) (by omega)
  · rw [if_neg h]; exact noStem_ok
theorem filter_at {α : Type} [Inhabited α] {l : List α} {p : α → Bool} {k : Nat} (hk : k < (l.filter p).length) : ∃ i, i < l.length ∧ (l.filter p).getD k default = l.getD i default := by
  rw [getG hk]
  have := List.getElem_mem hk
  obtain ⟨h1, _⟩ := List.mem_filter.1 this
  obtain ⟨i, hi, he⟩ := List.mem_iff_getElem.1 h1
  exact ⟨i, hi, by rw [getG hi, he]⟩
theorem lessP_ok {s : Stem} (hs : s.Ok) (id : Int) : (lessP s id).Ok := by
  refine ⟨?_, fun k hk => ?_, ?_⟩
  · show (lessC s id s.copies.length).length < _
    exact Nat.lt_of_le_of_lt (lessC_len s id _) hs.c
  · have hk : k < (lessC s id s.copies.length).length := hk
    show ((lessC s id s.copies.length).getD k default).words.length < _
    rw [lessC_all] at hk ⊢
    obtain ⟨i, h1, h2⟩ := filter_at hk
    rw [h2]; exact hs.w i h1
  · show (lessN s id s.never.length).length < _
    exact Nat.lt_of_le_of_lt (lessN_len s id _) hs.n
theorem withoutP_ok {s : Stem} (hs : s.Ok) (id : Int) : (withoutP s id).1.Ok := by
  unfold withoutP
  split
  · split
    · exact noStem_ok
    · exact lessP_ok hs id
  · exact noStem_ok
theorem eq_refl {x : Int} {b : Bool} (h : (x == x) = b) : b = true := by rw [← h]; exact beq_self_eq_true x
theorem stemChecks_law {s : Stem} {c : Copy} {co : Costs} {id a b : Int} (hs : s.Ok) (hf : s.Flags) (hw : c.wn = true → c.words = []) (hl : c.words.length < 9223372036854775808) :
    VP (sE r) 6 [.agg ((eStem s).map .p), .agg ((eCopy c ++ (eCosts co ++ [PV.int .i64 id, PV.int .i64 a, PV.int .i64 b])).map AV.p)] (bv true) := by
  refine VP.of (fn := Tryz.f6) tb_ok rfl (by kernel_rfl) rfl rfl rfl ?_
  refine VSt.run tb_ok false [] 200 rfl trivial ?_
  first | refine VSt.pc rfl rfl rfl rfl rfl rfl rfl rfl ((pWith_ok s c hs hf hw hl)) ?_ | refine VSt.pcD rfl rfl rfl rfl rfl rfl rfl rfl ((pWith_ok s c hs hf hw hl)) ?_
  refine VSt.run tb_ok false [] 200 rfl trivial ?_
  first | refine VSt.pc rfl rfl rfl rfl rfl rfl rfl rfl ((rWith_ok s c hs hl)) ?_ | refine VSt.pcD rfl rfl rfl rfl rfl rfl rfl rfl ((rWith_ok s c hs hl)) ?_
  refine VSt.run tb_ok false [] 200 rfl trivial ?_
  first | refine VSt.pc rfl rfl rfl rfl rfl rfl rfl rfl ((Without_ok s hs hf id)) ?_ | refine VSt.pcD rfl rfl rfl rfl rfl rfl rfl rfl ((Without_ok s hs hf id)) ?_
  refine VSt.run tb_ok false [] 200 rfl trivial ?_
  first | refine VSt.pc rfl rfl rfl rfl rfl rfl rfl rfl ((rWithout_ok s hs id)) ?_ | refine VSt.pcD rfl rfl rfl rfl rfl rfl rfl rfl ((rWithout_ok s hs id)) ?_
  refine VSt.run tb_ok false [] 200 rfl trivial ?_
  first | refine VSt.pc rfl rfl rfl rfl rfl rfl rfl rfl ((pCost_ok s hs a b)) ?_ | refine VSt.pcD rfl rfl rfl rfl rfl rfl rfl rfl ((pCost_ok s hs a b)) ?_
  refine VSt.run tb_ok false [] 200 rfl trivial ?_
  first | refine VSt.pc rfl rfl rfl rfl rfl rfl rfl rfl ((rCost_ok s hs a b)) ?_ | refine VSt.pcD rfl rfl rfl rfl rfl rfl rfl rfl ((rCost_ok s hs a b)) ?_
  refine VSt.run tb_ok false [] 200 rfl trivial ?_
  first | refine VSt.pc rfl rfl rfl rfl rfl rfl rfl rfl ((sameStem_ok _ _ (withS_ok hs hl) (Stem.Eqv.refl _))) ?_ | refine VSt.pcD rfl rfl rfl rfl rfl rfl rfl rfl ((sameStem_ok _ _ (withS_ok hs hl) (Stem.Eqv.refl _))) ?_
  refine VSt.run tb_ok false [] 200 rfl trivial ?_
  first | refine VSt.splitO 67 rfl (fun h0 => ?_) (fun h0 => ?_) | refine VSt.splitD 67 rfl (fun h0 => ?_) (fun h0 => ?_)
  · exact absurd h0 (by decide)
  refine VSt.run tb_ok false [] 200 rfl trivial ?_
  first | refine VSt.splitO 72 rfl (fun h1 => ?_) (fun h1 => ?_) | refine VSt.splitD 72 rfl (fun h1 => ?_) (fun h1 => ?_)
  · exact absurd h1 (by show ¬ (!(withE s c == withE s c)) = true; rw [beq_self_eq_true]; decide)
  refine VSt.run tb_ok false [] 200 rfl trivial ?_
  first | refine VSt.pc rfl rfl rfl rfl rfl rfl rfl rfl ((sameStem_ok _ _ (withoutP_ok hs id) (without_eqv s id).1)) ?_ | refine VSt.pcD rfl rfl rfl rfl rfl rfl rfl rfl ((sameStem_ok _ _ (withoutP_ok hs id) (without_eqv s id).1)) ?_
  refine VSt.run tb_ok false [] 200 rfl trivial ?_
  first | refine VSt.splitO 78 rfl (fun h8 => ?_) (fun h8 => ?_) | refine VSt.splitD 78 rfl (fun h8 => ?_) (fun h8 => ?_)
  · exact absurd h8 (by decide)
  refine VSt.run tb_ok false [] 200 rfl trivial ?_
  first | refine VSt.splitO 83 rfl (fun h2 => ?_) (fun h2 => ?_) | refine VSt.splitD 83 rfl (fun h2 => ?_) (fun h2 => ?_)
  · exact absurd h2 (by show ¬ (!((withoutP s id).2 == (withoutM s id).2)) = true; rw [(without_eqv s id).2, beq_self_eq_true]; decide)
  refine VSt.run tb_ok false [] 200 rfl trivial ?_
  first | refine VSt.splitO 88 rfl (fun h3 => ?_) (fun h3 => ?_) | refine VSt.splitD 88 rfl (fun h3 => ?_) (fun h3 => ?_)
  · exact absurd h3 (by show ¬ (!((costM s a b).1 == (costM s a b).1)) = true; rw [beq_self_eq_true]; decide)
  refine VSt.run tb_ok false [] 200 rfl trivial ?_
  refine VSt.cond rfl (fun h4 => ?_) (fun _ => ?_)
  · exact absurd h4 (by show ¬ (!((costM s a b).2 == (costM s a b).2)) = true; rw [beq_self_eq_true]; decide)
  refine VSt.run tb_ok false [] 200 rfl trivial ?_
  first | refine VSt.pc rfl rfl rfl rfl rfl rfl rfl rfl ((checkCopy_ok c hl)) ?_ | refine VSt.pcD rfl rfl rfl rfl rfl rfl rfl rfl ((checkCopy_ok c hl)) ?_
  refine VSt.run tb_ok false [] 200 rfl trivial ?_
  first | refine VSt.pc rfl rfl rfl rfl rfl rfl rfl rfl ((rCheckCopy_ok c hl)) ?_ | refine VSt.pcD rfl rfl rfl rfl rfl rfl rfl rfl ((rCheckCopy_ok c hl)) ?_
  refine VSt.run tb_ok false [] 200 rfl trivial ?_
  first | refine VSt.splitO 100 rfl (fun h5 => ?_) (fun h5 => ?_) | refine VSt.splitD 100 rfl (fun h5 => ?_) (fun h5 => ?_)
  · refine VSt.run tb_ok false [] 200 rfl trivial ?_
    first | refine VSt.pc rfl rfl rfl rfl rfl rfl rfl rfl ((checkCosts_ok co)) ?_ | refine VSt.pcD rfl rfl rfl rfl rfl rfl rfl rfl ((checkCosts_ok co)) ?_
    refine VSt.run tb_ok false [] 200 rfl trivial ?_
    first | refine VSt.pc rfl rfl rfl rfl rfl rfl rfl rfl ((rCheckCosts_ok co)) ?_ | refine VSt.pcD rfl rfl rfl rfl rfl rfl rfl rfl ((rCheckCosts_ok co)) ?_
    refine VSt.run tb_ok false [] 200 rfl trivial ?_
    first | refine VSt.splitO 109 rfl (fun h6 => ?_) (fun h6 => ?_) | refine VSt.splitD 109 rfl (fun h6 => ?_) (fun h6 => ?_)
    · refine VSt.run tb_ok false [] 200 rfl trivial ?_
      first | refine VSt.pc rfl rfl rfl rfl rfl rfl rfl rfl ((check_ok s hs)) ?_ | refine VSt.pcD rfl rfl rfl rfl rfl rfl rfl rfl ((check_ok s hs)) ?_
      refine VSt.run tb_ok false [] 200 rfl trivial ?_
      first | refine VSt.pc rfl rfl rfl rfl rfl rfl rfl rfl ((rCheck_ok s hs)) ?_ | refine VSt.pcD rfl rfl rfl rfl rfl rfl rfl rfl ((rCheck_ok s hs)) ?_
      refine VSt.run tb_ok false [] 200 rfl trivial ?_
      first | refine VSt.splitO 116 rfl (fun h7 => ?_) (fun h7 => ?_) | refine VSt.splitD 116 rfl (fun h7 => ?_) (fun h7 => ?_)
      · refine VSt.run tb_ok false [] 200 rfl trivial ?_
        first | refine VSt.pc rfl rfl rfl rfl rfl rfl rfl rfl ((VP.hook rfl)) ?_ | refine VSt.pcD rfl rfl rfl rfl rfl rfl rfl rfl ((VP.hook rfl)) ?_
        refine VSt.run tb_ok false [] 200 rfl trivial ?_
        exact EndsP.mk rfl rfl rfl rfl
      · exact absurd (eq_refl h7) (by decide)
    · exact absurd (eq_refl h6) (by decide)
  · exact absurd (eq_refl h5) (by decide)
end Go.Proofs.YtncpeobcgmkkbaaGreat
