/- The program's ChestChecks returns true for all openings, valid or not, without an exception and without changing its arguments: a part of the proof. -/
import Derived.Test.YtbieflpgjmgaiaaGreatVr
import Derived.Test.YtbieflpgjmgaiaaGreatVq
set_option linter.all false
/- Walks: a step of the matching. -/
set_option maxRecDepth 100000
namespace Go.Proofs.YtbieflpgjmgaiaaGreat
open Kuhn
variable {r : Rm}
structure WS (Fs Sec : Nat → Prop) (σ : KS Nat) : Prop where
  of_ : ∀ s g, σ.of s = some g → Sec s ∧ Fs g
  to_ : ∀ x y, σ.to x = some y → Fs x
theorem WS.pair {Fs Sec : Nat → Prop} {σ : KS Nat} (h : WS Fs Sec σ) {f s : Nat} (hf : Fs f) (hs : Sec s) : WS Fs Sec (σ.pair f s) := by
  refine ⟨fun t g ht => ?_, fun x y hx => ?_⟩
  · by_cases e : t = s
    · subst e
      have : (σ.pair f t).of t = some f := upd_eq
      rw [this] at ht; cases ht
      exact ⟨hs, hf⟩
    · exact h.of_ t g (by rw [← ht]; exact (upd_ne e).symm)
  · by_cases e : x = f
    · subst e; exact hf
    · exact h.to_ x y (by rw [← hx]; exact (upd_ne e).symm)
def eNs (l : List Nat) : PV := .lst 3 l.isEmpty l.length fun q => [.int .i64 (Int.ofNat (l.getD q 0))]
def nxP (P : List (Nat × Nat)) : Nat → Option PV := fun f => if nextP P f = [] then none else some (eNs (nextP P f))
end Go.Proofs.YtbieflpgjmgaiaaGreat
/- Walks: a step of the matching finds a partner, or none. -/
set_option maxRecDepth 100000
namespace Go.Proofs.YtbieflpgjmgaiaaGreat
open Kuhn
variable {r : Rm}
structure MG (P : List (Nat × Nat)) (B : List Nat) : Prop where
  adj : ∀ f, f ∈ firstsP P [] → ∀ x, x ∈ nextP P f → x ∈ B
  dis : ∀ x, x ∈ firstsP P [] → x ∉ B
  pos : ∀ f, f ∈ firstsP P [] → 0 < f
  big : ∀ f, f ∈ firstsP P [] → f < 1000000
  bigB : ∀ f, f ∈ B → f < 1000000
  nod : (firstsP P [] ++ B).Nodup
  len : P.length ≤ 3600
end Go.Proofs.YtbieflpgjmgaiaaGreat
/- Matchings, in plain words: the pairs one by one; as many keys as partners. -/
set_option maxRecDepth 100000
namespace Go.Proofs.YtbieflpgjmgaiaaGreat
open Kuhn
def Dm (σ : KS Nat) : Prop := ∀ s p, σ.of s = some p → (σ.to p).isSome = true
theorem Dm.pair {σ : KS Nat} (h : Dm σ) (f s : Nat) : Dm (σ.pair f s) := fun t p ht => by
  have key : ∀ p, p = f ∨ (σ.to p).isSome = true → ((σ.pair f s).to p).isSome = true := fun p hp => by
    by_cases e : p = f
    · subst e
      rw [show (σ.pair p s).to p = some s from upd_eq]; rfl
    · rw [show (σ.pair f s).to p = σ.to p from upd_ne e]
      exact hp.resolve_left e
  by_cases e : t = s
  · subst e
    rw [show (σ.pair f t).of t = some f from upd_eq] at ht
    cases ht
    exact key f (.inl rfl)
  · rw [show (σ.pair f s).of t = σ.of t from upd_ne e] at ht
    exact key p (.inr (h t p ht))
def ks0 (μ : MS Nat) : KS Nat := ⟨fun _ => false, μ.of, μ.to⟩
structure ToN (F D : List Nat) (μ : MS Nat) : Prop where
  dm : Dm (ks0 μ)
  dom : ∀ x, (μ.to x).isSome = true → x ∈ D
  num : (F.filter fun x => (μ.to x).isSome).length = μ.n
end Go.Proofs.YtbieflpgjmgaiaaGreat
/- Walks: the matching. -/
set_option maxRecDepth 100000
namespace Go.Proofs.YtbieflpgjmgaiaaGreat
open Kuhn
variable {r : Rm}
def tk (P : List (Nat × Nat)) (k : Nat) : List (Nat × Nat) := P.take k
theorem nxP_freeze {P : List (Nat × Nat)} {f : Nat} {m : Option Nat} (h : nextP P f ≠ []) {a : AV} (ha : AImp a (.p (eNs (nextP P f)))) : BImp (.mapA m (nxP P) [(f, a)]) (.mapA none (nxP P) []) :=
  BImp.mapF (.inr rfl) ha fun k => by
    cases hb : Nat.beq f k with
    | true => have := beq_eq hb; subst this; show nxP P f = some _; unfold nxP; rw [if_neg h]
    | false => rfl
def kA (w : Bool) (b : Bool) (l : List Opn) (d : Int) : AV := bif w then .ref 0 0 else .p (knP b l d)
end Go.Proofs.YtbieflpgjmgaiaaGreat
/- Walks: how many are false at least; what is known without some. -/
set_option maxRecDepth 100000
namespace Go.Proofs.YtbieflpgjmgaiaaGreat
open Kuhn
variable {r : Rm}
end Go.Proofs.YtbieflpgjmgaiaaGreat
/- Walks: the library's Compact and Clone of ints. -/
set_option maxRecDepth 100000
namespace Go.Proofs.YtbieflpgjmgaiaaGreat
variable {r : Rm}
def setP (p : Nat → Int) (i : Nat) (x : Int) : Nat → Int := fun q => if q = i then x else p q
theorem setP_ne {p : Nat → Int} {i : Nat} {x : Int} {q : Nat} (h : q ≠ i) : setP p i x q = p q := if_neg h
theorem setP_eq {p : Nat → Int} {i : Nat} {x : Int} : setP p i x i = x := if_pos rfl
theorem AImp.slE {i sz m m' c c' : Nat} (h : m = m') (h2 : c = c') : AImp (.sl i sz 0 m c 0) (.sl i sz 0 m' c' 0) := by subst h h2; exact AImp.refl _
theorem BImp.arr' {n n' sz : Nat} {f g : Nat → List PV} {t : TypeId} (e : n = n') (h : ∀ k, k < n → f k = g k) : BImp (.arr n sz f t) (.arr n' sz g t) := e ▸ BImp.arr h
theorem set_cell (p : Nat → Int) (i : Nat) (x : Int) (q : Nat) : (bif Nat.beq q (0 + i) then ppaste [PV.int .i64 (p (0 + i))] 0 [PV.int .i64 x] else [PV.int .i64 (p q)]) = [PV.int .i64 (setP p i x q)] := by
  rw [Nat.zero_add]
  by_cases h : q = i
  · subst h; rw [Nat.beq_refl, setP_eq]; rfl
  · rw [beq_ne h, setP_ne h]; rfl
def ded (f : Nat → Int) : Nat → List Int
  | 0 => []
  | k + 1 => bif decide (0 < k) && (f k == f (k - 1)) then ded f k else ded f k ++ [f k]
theorem ded_skip {f : Nat → Int} {k : Nat} (h0 : 0 < k) (h : f k = f (k - 1)) : ded f (k + 1) = ded f k := by
  rw [ded, decide_eq_true h0, h, beq_self_eq_true]; rfl
theorem ded_add {f : Nat → Int} {k : Nat} (h : 0 < k → f k ≠ f (k - 1)) : ded f (k + 1) = ded f k ++ [f k] := by
  rw [ded]
  by_cases h0 : 0 < k
  · rw [beq_false_of_ne (h h0), Bool.and_false]; rfl
  · rw [decide_eq_false h0]; rfl
theorem ded_len (f : Nat → Int) : ∀ k, (ded f k).length ≤ k
  | 0 => Nat.le_refl _
  | k + 1 => by
    have := ded_len f k
    rw [ded]
    cases decide (0 < k) && (f k == f (k - 1)) with
    | true => exact Nat.le_succ_of_le this
    | false => simp only [cond_false, List.length_append, List.length_singleton]; omega
theorem ded_pos (f : Nat → Int) : ∀ {k : Nat}, 0 < k → 0 < (ded f k).length
  | k + 1, _ => by
    by_cases h0 : 0 < k
    · have := ded_pos f h0
      rw [ded]
      cases decide (0 < k) && (f k == f (k - 1)) with
      | true => exact this
      | false => simp only [cond_false, List.length_append, List.length_singleton]; omega
    · rw [ded_add (fun h => absurd h h0)]; simp
theorem ded_mem {f : Nat → Int} {x : Int} : ∀ {k : Nat}, x ∈ ded f k ↔ ∃ i, i < k ∧ f i = x
  | 0 => ⟨fun h => (by cases h), fun ⟨i, h, _⟩ => absurd h (Nat.not_lt_zero i)⟩
  | k + 1 => by
    by_cases h : 0 < k ∧ f k = f (k - 1)
    · rw [ded_skip h.1 h.2, ded_mem]
      refine ⟨fun ⟨i, h1, h2⟩ => ⟨i, by omega, h2⟩, fun ⟨i, h1, h2⟩ => ?_⟩
      by_cases e : i = k
      · subst e; exact ⟨i - 1, by omega, by rw [← h.2]; exact h2⟩
      · exact ⟨i, by omega, h2⟩
    · rw [ded_add (fun h0 e => h ⟨h0, e⟩), List.mem_append, ded_mem, List.mem_singleton]
      refine ⟨fun h => ?_, fun ⟨i, h1, h2⟩ => ?_⟩
      · rcases h with ⟨i, h1, h2⟩ | h
        · exact ⟨i, by omega, h2⟩
        · exact ⟨k, by omega, h.symm⟩
      · by_cases e : i = k
        · subst e; exact .inr h2.symm
        · exact .inl ⟨i, by omega, h2⟩
theorem ded_all {f : Nat → Int} : ∀ {k : Nat}, (∀ i, 0 < i → i < k → f i ≠ f (i - 1)) → ded f k = (List.range k).map f
  | 0, _ => rfl
  | k + 1, h => by
    rw [ded_add (fun h0 => h k h0 (by omega)), ded_all (k := k) (fun i h1 h2 => h i h1 (by omega)), List.range_succ, List.map_append]; rfl
theorem map_at {f : Nat → Int} {n k : Nat} (h : k < n) : ((List.range n).map f).getD k 0 = f k := by
  rw [List.getD_eq_getElem?_getD, List.getElem?_map, List.getElem?_range h]; rfl
structure CmpInv (f : Nat → Int) (n k j m : Nat) (g : Nat → Int) : Prop where
  j1 : 1 ≤ j
  jn : j ≤ n - k
  km : k ≤ m
  mj : m + 1 ≤ k + j
  rest : ∀ i, m ≤ i → g i = f i
  len : (ded f (k + j)).length = m
  done : ∀ i, i < m → g i = (ded f (k + j)).getD i 0
end Go.Proofs.YtbieflpgjmgaiaaGreat
/- Walks: whether some reading has some as true, and some as false. -/
set_option maxRecDepth 100000
namespace Go.Proofs.YtbieflpgjmgaiaaGreat
open Kuhn
variable {r : Rm}
def setL (Z : List Int) : List Int := ded (fun k => (srt Z.length fun k => Z.getD k 0).getD k 0) Z.length
theorem setL_mem {Z : List Int} {x : Int} : x ∈ setL Z ↔ x ∈ Z := by
  unfold setL
  rw [ded_mem]
  constructor
  · rintro ⟨i, h1, h2⟩
    have h3 : x ∈ srt Z.length fun k => Z.getD k 0 := by
      rw [← h2, getD_get (by rw [srt_len]; exact h1)]
      exact List.getElem_mem _
    obtain ⟨k, hk, e⟩ := srt_mem.1 h3
    rw [← e]; exact getD_mem hk
  · intro h
    obtain ⟨k, hk, e⟩ := mem_getD (d := 0) h
    obtain ⟨i, h1, h2⟩ := List.mem_iff_getElem.1 (srt_mem (n := Z.length) (p := fun k => Z.getD k 0).2 ⟨k, hk, e⟩)
    rw [srt_len] at h1
    exact ⟨i, h1, by rw [getD_get (by rw [srt_len]; exact h1)]; exact h2⟩
theorem setL_len (Z : List Int) : (setL Z).length ≤ Z.length := ded_len _ _
theorem compact0_ok {fl : Bool} {f : Nat → List PV} : VP (sE r) 83 [.p (.lst 3 fl 0 f)] (.p (.lst 3 fl 0 f)) := by
  refine VP.of (fn := Tryz.f83) tb_ok (wk_ok rfl) (by kernel_rfl) rfl rfl rfl ?_
  refine VSt.go tb_ok false [] 200 rfl AllP.n ?_
  refine VSt.cond rfl (fun _ => ?_) (fun h => absurd h (by decide))
  refine VSt.go tb_ok false [] 200 rfl AllP.n ?_
  exact EndsP.mk rfl rfl rfl rfl
end Go.Proofs.YtbieflpgjmgaiaaGreat
/- Walks: the reference's openings that count; what contradicts what; without one. -/
set_option maxRecDepth 100000
namespace Go.Proofs.YtbieflpgjmgaiaaGreat
variable {r : Rm}
def eLO (l : List Opn) : PV := eOpns l.isEmpty l
def fO (l : List Opn) : Nat → List PV := fun k => eOpn (nth l k)
theorem app_opn (l : List Opn) (y : Opn) (ps : List PV) (hp : ps = eOpn y) (q : Nat) (hq : q < l.length + 1) : (bif Nat.blt q l.length then fO l q else (ps.drop ((q - l.length) * 9)).take 9) = fO (l ++ [y]) q := by
  unfold fO nth
  by_cases e : q < l.length
  · rw [blt_t e]
    simp only [cond_true, List.getD_eq_getElem?_getD]
    rw [List.getElem?_append_left e]
  · have : q = l.length := by omega
    subst this
    rw [blt_f e, Nat.sub_self, hp]
    simp [eOpn]
theorem acc_eLO {l : List Opn} {n : Nat} (hn : n = l.length) : (AV.p (.lst 45 (true && Nat.beq n 0) n (fO l))) = .p (eLO l) := by
  subst hn
  cases l <;> rfl
def cpO (o : Opn) : Opn := ⟨o.source, o.register, o.day, o.through, o.lawful, o.inn, false, o.out, false, o.known, o.until_⟩
theorem cpO_sz {o : Opn} (h : Sz o) : Sz (cpO o) := ⟨h.inn, h.out⟩
theorem cp_imp {l : List Int} : AImp (.p (.lst 3 false (0 + l.length) fun k => [.int .i64 (l.getD (0 + k) 0)])) (.p (eInts false l)) := by
  show AImp _ (.p (.lst 3 false l.length _))
  rw [Nat.zero_add]
  exact AImp.lst fun k _ => by rw [Nat.zero_add]
theorem cp_nil {l : List Int} (h : l.length = 0) {f : Nat → List PV} : AImp (.p (.lst 3 false 0 f)) (.p (eInts false l)) := by
  show AImp _ (.p (.lst 3 false l.length _))
  rw [h]
  exact AImp.lst fun k hk => absurd hk (Nat.not_lt_zero k)
set_option maxHeartbeats 4000000 in
theorem copyOpn_ok {o : Opn} (hz : Sz o) : VP (sE r) 96 [.agg ((eOpn o).map .p)] (.agg ((eOpn (cpO o)).map .p)) := by
  have h1 := hz.inn
  have h2 := hz.out
  refine VP.of (fn := Tryz.f96) tb_ok (wk_ok rfl) (by kernel_rfl) rfl rfl rfl ?_
  by_cases e1 : o.inn.length = 0
  case' pos =>
    refine VSt.go tb_ok true [7] 200 rfl (AllP.c (by assumption) AllP.n) ?_
    refine VSt.viewO (Vw.kp [1, 2, 4, 6] [(0, 0), (1, 1), (2, 2)] rfl) ?_
    refine VSt.viewO (Vw.freeze 2 rfl rfl ⟨Nat.le_of_eq (Nat.zero_add _), Nat.le_refl _, rfl⟩) ?_
    refine VSt.putO 6 (.p (eInts false o.inn)) rfl (cp_nil e1) ?_
  case' neg =>
    refine VSt.go tb_ok false [7] 200 rfl (AllP.c (by omega) (AllP.c (by omega) (AllP.c (fun _ _ => rfl) (AllP.c rfl (AllP.c rfl (AllP.c (by omega) (AllP.c (by omega) AllP.n))))))) ?_
    refine VSt.viewO (Vw.kp [1, 2, 4, 6] [(0, 0), (1, 1), (2, 3)] rfl) ?_
    refine VSt.viewO (Vw.freeze 2 rfl rfl ⟨Nat.le_of_eq (Nat.zero_add _), Nat.le_refl _, rfl⟩) ?_
    refine VSt.putO 6 (.p (eInts false o.inn)) rfl cp_imp ?_
  all_goals
    refine VSt.go tb_ok false [8] 200 rfl AllP.n ?_
    refine VSt.viewO (Vw.kp [1, 2] [(0, 0), (1, 1)] rfl) ?_
    by_cases e2 : o.out.length = 0
    case' pos =>
      refine VSt.go tb_ok true [12] 200 rfl (AllP.c (by assumption) AllP.n) ?_
      refine VSt.viewO (Vw.kp [1, 2, 9, 11] [(0, 0), (1, 1), (2, 2)] rfl) ?_
      refine VSt.viewO (Vw.freeze 2 rfl rfl ⟨Nat.le_of_eq (Nat.zero_add _), Nat.le_refl _, rfl⟩) ?_
      refine VSt.putO 11 (.p (eInts false o.out)) rfl (cp_nil e2) ?_
    case' neg =>
      refine VSt.go tb_ok false [12] 200 rfl (AllP.c (by omega) (AllP.c (by omega) (AllP.c (fun _ _ => rfl) (AllP.c rfl (AllP.c rfl (AllP.c (by omega) (AllP.c (by omega) AllP.n))))))) ?_
      refine VSt.viewO (Vw.kp [1, 2, 9, 11] [(0, 0), (1, 1), (2, 3)] rfl) ?_
      refine VSt.viewO (Vw.freeze 2 rfl rfl ⟨Nat.le_of_eq (Nat.zero_add _), Nat.le_refl _, rfl⟩) ?_
      refine VSt.putO 11 (.p (eInts false o.out)) rfl cp_imp ?_
    all_goals
      refine VSt.go tb_ok false [] 200 rfl AllP.n ?_
      exact EndsP.mk rfl rfl rfl rfl
end Go.Proofs.YtbieflpgjmgaiaaGreat
/- Walks: whether an opening is true; whether a paper lies in the chest. -/
set_option maxRecDepth 100000
namespace Go.Proofs.YtbieflpgjmgaiaaGreat
open Kuhn
variable {r : Rm}
theorem ded_rise {f : Nat → Int} : ∀ {n : Nat}, (∀ i j, i ≤ j → j < n → f i ≤ f j) → (ded f n).Pairwise (· < ·) ∧ ∀ x, x ∈ ded f n → x ≤ f (n - 1)
  | 0, _ => ⟨.nil, fun x h => nomatch h⟩
  | k + 1, h => by
    obtain ⟨h1, h2⟩ := ded_rise (n := k) fun i j hij hj => h i j hij (by omega)
    have hk : ∀ x, x ∈ ded f k → x ≤ f k := fun x hx => Int.le_trans (h2 x hx) (h (k - 1) k (by omega) (by omega))
    by_cases e : 0 < k ∧ f k = f (k - 1)
    · rw [ded_skip e.1 e.2]
      exact ⟨h1, hk⟩
    · rw [ded_add (fun h0 he => e ⟨h0, he⟩)]
      refine ⟨List.pairwise_append.2 ⟨h1, List.pairwise_singleton _ _, fun x hx y hy => ?_⟩, fun x hx => ?_⟩
      · rw [List.mem_singleton.1 hy]
        have h3 := h2 x hx
        by_cases h0 : 0 < k
        · have h4 := h (k - 1) k (by omega) (by omega)
          have h5 : f k ≠ f (k - 1) := fun he => e ⟨h0, he⟩
          omega
        · have : k = 0 := by omega
          subst this
          cases hx
      · rcases List.mem_append.1 hx with hx | hx
        · exact hk x hx
        · rw [List.mem_singleton.1 hx]; exact Int.le_refl _
theorem setL_rise (Z : List Int) : (setL Z).Pairwise (· < ·) := by
  refine (ded_rise fun i j hij hj => ?_).1
  have hs := srt_sorted Z.length fun k => Z.getD k 0
  rw [getD_get (by rw [srt_len]; omega), getD_get (by rw [srt_len]; omega)]
  by_cases e : i = j
  · subst e; exact Int.le_refl _
  · exact List.pairwise_iff_getElem.1 hs i j (by rw [srt_len]; omega) (by rw [srt_len]; omega) (by omega)
end Go.Proofs.YtbieflpgjmgaiaaGreat
/- Walks: the program's True, Inside, Sealed. -/
set_option maxRecDepth 100000
namespace Go.Proofs.YtbieflpgjmgaiaaGreat
variable {r : Rm}
end Go.Proofs.YtbieflpgjmgaiaaGreat
