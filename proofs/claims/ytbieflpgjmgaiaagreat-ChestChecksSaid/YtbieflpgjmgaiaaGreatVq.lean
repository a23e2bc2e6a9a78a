/- The program's ChestChecks returns true for all openings, valid or not, without an exception and without changing its arguments: a part of the proof. -/
import Derived.Test.YtbieflpgjmgaiaaGreatVe
import Derived.Test.YtbieflpgjmgaiaaGreatVg
import Derived.Test.YtbieflpgjmgaiaaGreatVd
import Derived.WalkKit
set_option linter.all false
/- Openings: pairs of all, partners; the least covers. -/

namespace Go.Proofs.YtbieflpgjmgaiaaGreat.Kuhn
variable {α : Type} [DecidableEq α]
structure KS (α : Type) where
  seen : α → Bool
  of : α → Option α
  to : α → Option α
def upd {β : Type} (f : α → β) (x : α) (y : β) : α → β := fun z => if z = x then y else f z
theorem upd_eq {β : Type} {f : α → β} {x : α} {y : β} : upd f x y x = y := if_pos rfl
theorem upd_ne {β : Type} {f : α → β} {x z : α} {y : β} (h : z ≠ x) : upd f x y z = f z := if_neg h
def KS.pair (σ : KS α) (f s : α) : KS α := ⟨σ.seen, upd σ.of s (some f), upd σ.to f (some s)⟩
def left (B : List α) (σ : KS α) : Nat := (B.filter fun s => !σ.seen s).length
def Closed (adj : α → List α) (of : α → Option α) (S : α → Prop) : Prop := ∀ s, S s → ∃ p, of s = some p ∧ ∀ x, x ∈ adj p → S x
structure Fails (adj : α → List α) (l : List α) (σ τ : KS α) : Prop where
  of : τ.of = σ.of
  to : τ.to = σ.to
  grow : ∀ s, σ.seen s = true → τ.seen s = true
  all : ∀ s, s ∈ l → τ.seen s = true
  new : ∀ s, τ.seen s = true → σ.seen s = false → ∃ p, σ.of s = some p ∧ ∀ x, x ∈ adj p → τ.seen x = true
structure Wins (adj : α → List α) (f : α) (σ τ : KS α) : Prop where
  old : ∀ s, σ.seen s = true → τ.of s = σ.of s
  inj : ∀ s t g, σ.seen s = false → σ.seen t = false → τ.of s = some g → τ.of t = some g → s = t
  ran : ∀ g, (∃ s, σ.seen s = false ∧ τ.of s = some g) ↔ (g = f ∨ ∃ s, σ.seen s = false ∧ σ.of s = some g)
  keep : ∀ s, σ.of s ≠ none → τ.of s ≠ none
  one : ∃ s, σ.of s = none ∧ τ.of s ≠ none ∧ ∀ t, t ≠ s → (τ.of t = none ↔ σ.of t = none)
  adj : (∀ s g, σ.of s = some g → s ∈ adj g) → ∀ s g, τ.of s = some g → s ∈ adj g
structure Ready (f : α) (σ : KS α) : Prop where
  free : ∀ s, σ.seen s = false → σ.of s ≠ some f
  inj : ∀ s t g, σ.seen s = false → σ.seen t = false → σ.of s = some g → σ.of t = some g → s = t
structure MS (α : Type) where
  of : α → Option α
  to : α → Option α
  n : Nat
structure Inv (adj : α → List α) (B F : List α) (μ : MS α) : Prop where
  edge : ∀ s g, μ.of s = some g → s ∈ adj g ∧ g ∈ F
  inj : ∀ s t g, μ.of s = some g → μ.of t = some g → s = t
  num : (B.filter fun s => (μ.of s).isSome).length = μ.n
  cut : ∃ S : α → Prop, Closed adj μ.of S ∧ ∀ f, f ∈ F → (∃ s, μ.of s = some f) ∨ ∀ x, x ∈ adj f → S x
end Go.Proofs.YtbieflpgjmgaiaaGreat.Kuhn
/- The least covers. -/
namespace Go.Proofs.YtbieflpgjmgaiaaGreat.Kuhn
variable {α : Type} [DecidableEq α]
def Cov (E : α → α → Prop) (C : List α) : Prop := ∀ f x, E f x → f ∈ C ∨ x ∈ C
structure Low (E : α → α → Prop) (n : Nat) : Prop where
  some : ∃ C, Cov E C ∧ C.length = n
  all : ∀ C, Cov E C → n ≤ C.length
omit [DecidableEq α] in
theorem Low.uniq {E : α → α → Prop} {n m : Nat} (h : Low E n) (k : Low E m) : n = m := by
  obtain ⟨C, c1, c2⟩ := h.some
  obtain ⟨D, d1, d2⟩ := k.some
  have := h.all D d1
  have := k.all C c1
  omega
omit [DecidableEq α] in
theorem Low.congr {E E' : α → α → Prop} {n : Nat} (h : Low E n) (e : ∀ f x, E f x ↔ E' f x) : Low E' n := by
  have : E = E' := funext fun f => funext fun x => propext (e f x)
  exact this ▸ h
def less (E : α → α → Prop) (X : List α) : α → α → Prop := fun f x => E f x ∧ f ∉ X ∧ x ∉ X
end Go.Proofs.YtbieflpgjmgaiaaGreat.Kuhn
/- Openings, in plain words: what is valid, what contradicts what, how many are false at least. -/
namespace Go.Proofs.YtbieflpgjmgaiaaGreat
open Kuhn
structure Opn where
  source : Int
  register : Int
  day : Int
  through : Int
  lawful : Int
  inn : List Int
  inB : Bool
  out : List Int
  outB : Bool
  known : Int
  until_ : Int
instance : Inhabited Opn := ⟨⟨0, 0, 0, 0, 0, [], true, [], true, 0, 0⟩⟩
def wth (n lo hi : Int) : Bool := decide (lo ≤ n) && decide (n ≤ hi)
theorem wth_iff {n lo hi : Int} : wth n lo hi = true ↔ lo ≤ n ∧ n ≤ hi := by
  unfold wth; rw [Bool.and_eq_true, decide_eq_true_iff, decide_eq_true_iff]
theorem getD_get {α : Type} {l : List α} {k : Nat} {d : α} (h : k < l.length) : l.getD k d = l[k] := by
  rw [List.getD_eq_getElem?_getD, List.getElem?_eq_getElem h]; rfl
theorem getD_mem {α : Type} {l : List α} {k : Nat} {d : α} (h : k < l.length) : l.getD k d ∈ l := by
  rw [getD_get h]; exact List.getElem_mem h
theorem mem_getD {α : Type} {l : List α} {x d : α} (h : x ∈ l) : ∃ k, k < l.length ∧ l.getD k d = x := by
  obtain ⟨k, hk, e⟩ := List.mem_iff_getElem.1 h
  exact ⟨k, hk, by rw [getD_get hk]; exact e⟩
def allB (p : Nat → Bool) (n : Nat) : Bool := (List.range n).all p
theorem allB_iff {p : Nat → Bool} {n : Nat} : allB p n = true ↔ ∀ k, k < n → p k = true := by
  unfold allB; rw [List.all_eq_true]
  exact ⟨fun h k hk => h k (List.mem_range.2 hk), fun h k hk => h k (List.mem_range.1 hk)⟩
theorem allB_not {p : Nat → Bool} {n k : Nat} (hk : k < n) (h : p k = false) : allB p n = false := by
  rw [← Bool.not_eq_true]
  intro h1
  rw [allB_iff.1 h1 k hk] at h; cases h
def hasI (l : List Int) (n : Int) : Bool := l.any fun y => n == y
def comI (a b : List Int) : Bool := a.any fun n => hasI b n
def nameB (l : List Int) (k : Nat) : Bool := wth (l.getD k 0) 1 999 && (Nat.beq k 0 || decide (l.getD (k - 1) 0 < l.getD k 0))
def namedB (l : List Int) : Bool := allB (nameB l) l.length && decide (l.length ≤ 8)
structure OkO (o : Opn) : Prop where
  source : wth o.source 1 99999 = true
  register : wth o.register 1 2 = true
  day : 0 ≤ o.day ∧ o.day ≤ o.through ∧ o.through ≤ 100000
  lawful : wth o.lawful 0 2 = true
  inn : namedB o.inn = true
  out : namedB o.out = true
  com : comI o.inn o.out = false
  known : wth o.known 0 100000 = true
  until_ : o.until_ ≠ 0 → wth o.until_ (o.known + 1) 100000 = true
open Classical in
noncomputable def ckO (o : Opn) : Int := if OkO o then 0 else 60
def meetB (a b : Opn) : Bool := decide (a.day ≤ b.through) && decide (b.day ≤ a.through)
def everB (a b : Opn) : Bool := (a.until_ == 0 || decide (b.known < a.until_)) && (b.until_ == 0 || decide (a.known < b.until_))
def hit (a b : Opn) : Bool := a.register == b.register && (meetB a b && everB a b)
def nth (l : List Opn) (k : Nat) : Opn := l.getD k default
structure Reg (l : List Opn) : Prop where
  len : l.length ≤ 60
  ok : ∀ i, i < l.length → OkO (nth l i)
  rise : ∀ i, 0 < i → i < l.length → (nth l (i - 1)).source < (nth l i).source
  apart : ∀ i, i < l.length → ∀ k, k < i → hit (nth l k) (nth l i) = false
open Classical in
noncomputable def ckReg (l : List Opn) : Int := if Reg l then 0 else 61
theorem ckReg_or (l : List Opn) : (Reg l ∧ ckReg l = 0) ∨ (¬ Reg l ∧ ckReg l = 61) := by
  unfold ckReg
  by_cases h : Reg l
  · exact .inl ⟨h, if_pos h⟩
  · exact .inr ⟨h, if_neg h⟩
def counts (o : Opn) (d : Int) : Bool := decide (o.known ≤ d) && (o.until_ == 0 || decide (d < o.until_))
def clB (a b : Opn) : Bool := !(a.register == b.register) && (meetB a b && (comI a.inn b.out || comI a.out b.inn))
def src (o : Opn) : Nat := o.source.toNat
def cnt (l : List Opn) (d : Int) (bar : Nat → Bool) : List Opn := l.filter fun o => counts o d && !bar (src o)
structure Vc (c : List Opn) : Prop where
  ok : ∀ o ∈ c, OkO o
  rise : c.Pairwise fun a b => a.source < b.source
theorem rise_pair : ∀ {l : List Opn}, (∀ i, 0 < i → i < l.length → (nth l (i - 1)).source < (nth l i).source) → l.Pairwise fun a b => a.source < b.source
  | [], _ => .nil
  | [a], _ => .cons (fun _ h => nomatch h) .nil
  | a :: b :: l, h => by
    have ih := rise_pair (l := b :: l) fun i h0 h1 => by
      have := h (i + 1) (by omega) (by simpa using h1)
      obtain ⟨k, rfl⟩ : ∃ k, i = k + 1 := ⟨i - 1, by omega⟩
      exact this
    have h1 : a.source < b.source := h 1 (by decide) (by simp)
    refine .cons (fun x hx => ?_) ih
    rcases List.mem_cons.1 hx with rfl | hx
    · exact h1
    · exact Int.lt_trans h1 (List.rel_of_pairwise_cons ih hx)
theorem Reg.vc {l : List Opn} (h : Reg l) : Vc l := ⟨fun o ho => by
  obtain ⟨k, hk, rfl⟩ := mem_getD (d := default) ho
  exact h.ok k hk, rise_pair h.rise⟩
theorem Vc.filter {c : List Opn} (h : Vc c) (p : Opn → Bool) : Vc (c.filter p) := ⟨fun o ho => h.ok o (List.mem_filter.1 ho).1, h.rise.filter p⟩
theorem Reg.cnt {l : List Opn} (h : Reg l) (d : Int) (bar : Nat → Bool) : Vc (cnt l d bar) := h.vc.filter _
theorem OkO.pos {o : Opn} (h : OkO o) : 1 ≤ o.source ∧ o.source ≤ 99999 := wth_iff.1 h.source
theorem OkO.src {o : Opn} (h : OkO o) : o.source = Int.ofNat (src o) := by
  have := h.pos
  unfold Proofs.YtbieflpgjmgaiaaGreat.src
  simp only [Int.ofNat_eq_natCast]; omega
theorem Vc.inj {c : List Opn} (h : Vc c) {a b : Opn} (ha : a ∈ c) (hb : b ∈ c) (e : src a = src b) : a = b := by
  have e2 : a.source = b.source := by rw [(h.ok a ha).src, (h.ok b hb).src, e]
  have := h.rise
  induction c with
  | nil => cases ha
  | cons x c ih =>
    have hx := (List.pairwise_cons.1 this).1
    rcases List.mem_cons.1 ha with k1 | k1 <;> rcases List.mem_cons.1 hb with k2 | k2
    · rw [k1, k2]
    · have := hx b k2; rw [k1] at e2; omega
    · have := hx a k1; rw [k2] at e2; omega
    · exact ih ⟨fun o ho => h.ok o (List.mem_cons_of_mem _ ho), (List.pairwise_cons.1 this).2⟩ k1 k2 (List.pairwise_cons.1 this).2
theorem Vc.len {c : List Opn} {l : List Opn} {p : Opn → Bool} (h : Reg l) (e : c = l.filter p) : c.length ≤ 60 := by
  rw [e]; exact Nat.le_trans (List.length_filter_le _ _) h.len
def isP (a b : Opn) : Bool := a.register == 1 && (b.register == 2 && clB a b)
def cross (c : List Opn) : List (Nat × Nat) := c.flatMap fun a => (c.filter fun b => isP a b).map fun b => (src a, src b)
def edg (c : List Opn) (f x : Nat) : Prop := (f, x) ∈ cross c
def firstsP : List (Nat × Nat) → List Nat → List Nat
  | [], acc => acc
  | p :: l, acc => firstsP l (bif acc.contains p.1 then acc else acc ++ [p.1])
def nextP (P : List (Nat × Nat)) (f : Nat) : List Nat := (P.filter fun p => Nat.beq p.1 f).map Prod.snd
open Classical in
noncomputable def lowN (E : Nat → Nat → Prop) : Nat := if h : ∃ n, Low E n then Classical.choose h else 0
def lessC (c : List Opn) (X : List Nat) : List Opn := c.filter fun o => !X.contains (src o)
def may (c : List Opn) (X : List Nat) : Prop := X.length + lowN (edg (lessC c X)) = lowN (edg c)
end Go.Proofs.YtbieflpgjmgaiaaGreat
/- The table of this program's types. -/
set_option maxRecDepth 100000
namespace Go.Proofs.YtbieflpgjmgaiaaGreat
noncomputable def tb : Tab := [
  (3, ⟨1, false, .int .i64, [.int .i64 (0)]⟩),
  (45, ⟨9, true, .struct false [(0, 1, false), (1, 1, false), (2, 1, false), (3, 1, false), (4, 1, false), (5, 1, false), (6, 1, false), (7, 1, false), (8, 1, false)], [.int .i64 (0), .int .i64 (0), .int .i64 (0), .int .i64 (0), .int .i64 (0), .lst 0 true 0 fun _ => [], .lst 0 true 0 fun _ => [], .int .i64 (0), .int .i64 (0)]⟩),
  (32, ⟨1, false, .slice 3 1, [.lst 0 true 0 fun _ => []]⟩),
  (22, ⟨1, false, .slice 45 9, [.lst 0 true 0 fun _ => []]⟩),
  (69, ⟨2, true, .struct true [(0, 1, false), (1, 1, false)], [.int .i64 (0), .int .i64 (0)]⟩),
  (25, ⟨1, false, .int .i64, [.int .i64 (0)]⟩),
  (70, ⟨1, false, .ptr, [.nilp]⟩),
  (51, ⟨1, false, .slice 69 2, [.lst 0 true 0 fun _ => []]⟩),
  (23, ⟨2, true, .arr 2 1 false, [.int .i64 (0), .int .i64 (0)]⟩),
  (153, ⟨1, false, .int .u64, [.int .u64 (0)]⟩),
  (42, ⟨1, false, .func, [.nilf]⟩),
  (95, ⟨1, true, .struct false [(0, 1, false)], [.lst 0 true 0 fun _ => []]⟩),
  (96, ⟨1, false, .mapA (.bool false), [.nilm]⟩),
  (110, ⟨1, false, .mapA (.int .i64 (0)), [.nilm]⟩),
  (101, ⟨8, true, .arr 8 1 false, [.int .i64 (0), .int .i64 (0), .int .i64 (0), .int .i64 (0), .int .i64 (0), .int .i64 (0), .int .i64 (0), .int .i64 (0)]⟩),
  (125, ⟨1, false, .int .u64, [.int .u64 (0)]⟩),
  (4, ⟨1, false, .bool, [.bool false]⟩),
  (157, ⟨1, false, .ptr, [.nilp]⟩),
  (98, ⟨3, true, .struct false [(0, 1, true), (1, 1, false), (2, 1, false)], [.lst 0 true 0 fun _ => [], .int .i64 (0), .nilm]⟩),
  (130, ⟨1, false, .mapA (.lst 0 true 0 fun _ => []), [.nilm]⟩),
  (40, ⟨3, true, .arr 3 1 false, [.int .i64 (0), .int .i64 (0), .int .i64 (0)]⟩),
  (80, ⟨1, false, .func, [.nilf]⟩),
  (146, ⟨1, false, .int .u64, [.int .u64 (0)]⟩),
  (144, ⟨1, false, .int .u32, [.int .u32 (0)]⟩),
  (135, ⟨1, false, .slice 32 1, [.lst 0 true 0 fun _ => []]⟩),
  (39, ⟨1, false, .slice 101 8, [.lst 0 true 0 fun _ => []]⟩),
  (53, ⟨2, true, .struct false [(0, 1, false), (1, 1, false)], [.lst 0 true 0 fun _ => [], .lst 0 true 0 fun _ => []]⟩),
  (128, ⟨1, false, .slice 4 1, [.lst 0 true 0 fun _ => []]⟩),
  (5, ⟨1, false, .int .u8, [.int .u8 (0)]⟩),
  (137, ⟨1, false, .int .i64, [.int .i64 (0)]⟩),
  (37, ⟨1, false, .func, [.nilf]⟩),
  (9, ⟨1, false, .str, [.str ⟨#[]⟩]⟩),
  (132, ⟨1, false, .func, [.nilf]⟩)]
theorem tb_ok {r : Rm} : TabOK (sE r) tb = true := by kernel_rfl
end Go.Proofs.YtbieflpgjmgaiaaGreat
/- Openings by value; the checks of one opening. -/
set_option maxRecDepth 100000
namespace Go.Proofs.YtbieflpgjmgaiaaGreat
def eInts (b : Bool) (l : List Int) : PV := .lst 3 b l.length fun k => [.int .i64 (l.getD k 0)]
def eOpn (o : Opn) : List PV := [.int .i64 o.source, .int .i64 o.register, .int .i64 o.day, .int .i64 o.through, .int .i64 o.lawful, eInts o.inB o.inn, eInts o.outB o.out, .int .i64 o.known, .int .i64 o.until_]
def eOpns (b : Bool) (l : List Opn) : PV := .lst 45 b l.length fun k => eOpn (nth l k)
theorem blt_t {a b : Nat} (h : a < b) : Nat.blt a b = true := by simpa using h
theorem blt_f {a b : Nat} (h : ¬ a < b) : Nat.blt a b = false := by rw [← Bool.not_eq_true]; simpa using h
structure SzW (o : Opn) : Prop where
  inn : o.inn.length < 9223372036854775808
  out : o.out.length < 9223372036854775808
structure Sz (o : Opn) : Prop where
  inn : o.inn.length < 1000000
  out : o.out.length < 1000000
variable {r : Rm}
theorem within_ok (n lo hi : Int) : VP (sE r) 59 [iv n, iv lo, iv hi] (bv (wth n lo hi)) := by
  refine VP.of (fn := Tryz.f59) tb_ok (wk_ok rfl) (by kernel_rfl) rfl rfl rfl ?_
  refine VSt.run tb_ok false [] 200 rfl trivial ?_
  refine VSt.splitO 10 rfl (fun h => ?_) (fun h => ?_)
  · refine VSt.run tb_ok false [] 200 rfl trivial ?_
    refine EndsP.mk rfl rfl rfl ?_
    show bv _ = bv _
    unfold wth; rw [h]; rfl
  · refine VSt.run tb_ok false [] 200 rfl trivial ?_
    refine EndsP.mk rfl rfl rfl ?_
    show bv _ = bv _
    unfold wth; rw [h]; rfl
theorem isDay_ok (n : Int) : VP (sE r) 99 [iv n] (bv (wth n 0 100000)) := by
  refine VP.of (fn := Tryz.f99) tb_ok (wk_ok rfl) (by kernel_rfl) rfl rfl rfl ?_
  refine VSt.go tb_ok false [] 200 rfl AllP.n ?_
  refine VSt.pc rfl rfl rfl rfl rfl rfl rfl rfl ((within_ok n 0 100000)) ?_
  refine VSt.go tb_ok false [] 200 rfl AllP.n ?_
  exact EndsP.mk rfl rfl rfl rfl
theorem named_okW {b : Bool} {l : List Int} (hn : l.length < 9223372036854775808) : VP (sE r) 97 [.p (eInts b l)] (bv (namedB l)) := by
  refine VP.of (fn := Tryz.f97) tb_ok (wk_ok rfl) (by kernel_rfl) rfl rfl rfl ?_
  refine VSt.go tb_ok false [] 200 rfl AllP.n ?_
  refine VSt.rangeT tb_ok l.length (by omega) [0, 5] (fun _ => []) (fun _ => []) (fun k => ∀ i, i < k → nameB l i = true) rfl rfl rfl (fun _ => rfl) rfl rfl u0_nil trivial (fun i hi => absurd hi (Nat.not_lt_zero i)) (fun k hk hp => ?_) (fun hp => ?_)
  · have bad : nameB l k = false → namedB l = false := fun h => by unfold namedB; rw [allB_not hk h]; rfl
    have step : nameB l k = true → ∀ i, i < k + 1 → nameB l i = true := fun h i hi => by
      by_cases e : i = k
      · subst e; exact h
      · exact hp i (by omega)
    refine VSt.go tb_ok false [] 200 rfl (AllP.c (by assumption) (AllP.c rfl AllP.n)) ?_
    refine VSt.pc rfl rfl rfl rfl rfl rfl rfl rfl ((within_ok (l.getD k 0) 1 999)) ?_
    refine VSt.go tb_ok false [] 200 rfl AllP.n ?_
    refine VSt.splitO 15 rfl (fun h1 => ?_) (fun h1 => ?_)
    · have h1 : (!wth (l.getD k 0) 1 999) = true := h1
      refine VSt.go tb_ok false [] 200 rfl AllP.n ?_
      refine EndsP.mk rfl rfl rfl ?_
      rw [bad (by unfold nameB; rw [show wth (l.getD k 0) 1 999 = false by simpa using h1]; rfl)]; rfl
    have h1 : wth (l.getD k 0) 1 999 = true := by
      have h1 : (!wth (l.getD k 0) 1 999) = false := h1
      simpa using h1
    refine VSt.go tb_ok false [] 200 rfl AllP.n ?_
    refine VSt.splitO 18 rfl (fun h2 => ?_) (fun h2 => ?_)
    · have h2 : 0 < k := by have h2 := of_decide_eq_true h2; simp only [Int.ofNat_eq_natCast] at h2; omega
      refine VSt.go tb_ok false [22] 200 rfl (AllP.c (by unfold inR; (try simp only [Int.ofNat_eq_natCast]); omega) AllP.n) ?_
      refine VSt.putO 21 (nv (k - 1)) rfl (iv_nv (by simp only [Int.ofNat_eq_natCast]; omega)) ?_
      refine VSt.go tb_ok false [] 200 rfl (AllP.c (by omega) (AllP.c rfl AllP.n)) ?_
      refine VSt.cond rfl (fun h3 => ?_) (fun h3 => ?_)
      · have h3 : l.getD k 0 ≤ l.getD (k - 1) 0 := of_decide_eq_true h3
        refine VSt.go tb_ok false [] 200 rfl AllP.n ?_
        refine EndsP.mk rfl rfl rfl ?_
        rw [bad (by unfold nameB; rw [decide_eq_false (by omega : ¬ l.getD (k - 1) 0 < l.getD k 0), beq_ne (show k ≠ 0 by omega)]; simp)]; rfl
      · have h3 : ¬ l.getD k 0 ≤ l.getD (k - 1) 0 := of_decide_eq_false h3
        refine VSt.go tb_ok false [] 200 rfl AllP.n ?_
        refine ⟨by (refine Vw.drop (by repeat (first | exact wf_nil | refine wf_back rfl rfl rfl ?_ | refine wf_cons rfl (by assumption) (ren_only _ (by assumption)) ?_))), step ?_⟩
        unfold nameB; rw [decide_eq_true (by omega : l.getD (k - 1) 0 < l.getD k 0), h1]; simp
    · have h2 : k = 0 := by have h2 := of_decide_eq_false h2; simp only [Int.ofNat_eq_natCast] at h2; omega
      refine VSt.go tb_ok false [] 200 rfl AllP.n ?_
      refine ⟨by (refine Vw.drop (by repeat (first | exact wf_nil | refine wf_back rfl rfl rfl ?_ | refine wf_cons rfl (by assumption) (ren_only _ (by assumption)) ?_))), step ?_⟩
      unfold nameB; rw [h1, h2]; rfl
  · refine VSt.go tb_ok false [] 200 rfl AllP.n ?_
    refine EndsP.mk rfl rfl rfl ?_
    show bv (decide (Int.ofNat l.length ≤ 8)) = bv _
    unfold namedB
    rw [allB_iff.2 hp, Bool.true_and]
    congr 2
    exact propext ⟨fun h => by simp only [Int.ofNat_eq_natCast] at h; omega, fun h => by simp only [Int.ofNat_eq_natCast]; omega⟩
def idxI (l : List Int) (p : Int → Bool) : Int := match l.findIdx? p with
  | some k => k
  | none => -1
theorem idxI_hit {l : List Int} {k : Nat} {p : Int → Bool} (hk : k < l.length) (h : p (l.getD k 0) = true) (hb : ∀ i, i < k → p (l.getD i 0) = false) : idxI l p = k := by
  unfold idxI
  have : l.findIdx? p = some k := by
    rw [List.findIdx?_eq_some_iff_getElem]
    refine ⟨hk, by rw [getD_get hk] at h; exact h, fun j hj => ?_⟩
    have := hb j hj
    rw [getD_get (by omega)] at this
    simp [this]
  rw [this]
theorem idxI_miss {l : List Int} {p : Int → Bool} (hb : ∀ i, i < l.length → p (l.getD i 0) = false) : idxI l p = -1 := by
  unfold idxI
  have : l.findIdx? p = none := by
    rw [List.findIdx?_eq_none_iff]
    intro x hx
    obtain ⟨k, hk, rfl⟩ := List.mem_iff_getElem.1 hx
    have := hb k hk
    rwa [getD_get hk] at this
  rw [this]
theorem idxInt_ok {b : Bool} {l : List Int} {f : Nat} {first cap : List AV} {p : Int → Bool} (hn : l.length < 9223372036854775808) (hon : (AV.fn f first cap).only (olds []) = true) (hoc : ∀ x, AV.onlys (olds []) (first ++ ([iv x] ++ cap)) = true) (hf : ∀ x, VP (sE r) f (first ++ ([iv x] ++ cap)) (bv (p x))) :
    VP (sE r) 108 [.p (eInts b l), .fn f first cap] (iv (idxI l p)) := by
  refine VP.of (fn := Tryz.f108) tb_ok (wk_ok rfl) (by kernel_rfl) rfl rfl rfl ?_
  refine VSt.run tb_ok false [] 200 rfl trivial ?_
  refine VSt.rangeF tb_ok l.length (by omega) (fun _ => [(0, .p (eInts b l)), (1, .fn f first cap)]) (fun _ => []) (fun k => ∀ i, i < k → p (l.getD i 0) = false) rfl rfl (fun _ => rfl) ?_ (fun i hi => absurd hi (Nat.not_lt_zero i)) (fun k hk hp => ?_) (fun hp => ?_)
  · (refine Vw.drop (by repeat (first | exact wf_nil | refine wf_back rfl rfl rfl ?_ | refine wf_cons rfl (by assumption) (ren_only _ (by assumption)) ?_)))
  · refine VSt.run tb_ok false [] 200 rfl (⟨hk, rfl⟩) ?_
    refine VSt.pcall (hf (l.getD k 0)) rfl rfl rfl rfl rfl rfl (hoc _) ?_
    refine VSt.run tb_ok false [] 200 rfl trivial ?_
    refine VSt.cond rfl (fun hc => ?_) (fun hc => ?_)
    · refine VSt.run tb_ok false [] 200 rfl trivial ?_
      refine EndsP.mk rfl rfl rfl ?_
      rw [idxI_hit hk hc hp]; rfl
    · refine VSt.run tb_ok false [] 200 rfl trivial ?_
      refine ⟨by (refine Vw.drop (by repeat (first | exact wf_nil | refine wf_back rfl rfl rfl ?_ | refine wf_cons rfl (by assumption) (ren_only _ (by assumption)) ?_))), fun i hi => ?_⟩
      by_cases e : i = k
      · subst e; exact hc
      · exact hp i (by omega)
  · refine VSt.run tb_ok false [] 200 rfl trivial ?_
    refine EndsP.mk rfl rfl rfl ?_
    rw [idxI_miss hp]; rfl
theorem contInt_ok {b : Bool} {l : List Int} {f : Nat} {first cap : List AV} {p : Int → Bool} (hn : l.length < 9223372036854775808) (hon : (AV.fn f first cap).only (olds []) = true) (hoc : ∀ x, AV.onlys (olds []) (first ++ ([iv x] ++ cap)) = true) (hf : ∀ x, VP (sE r) f (first ++ ([iv x] ++ cap)) (bv (p x))) :
    VP (sE r) 65 [.p (eInts b l), .fn f first cap] (bv (l.any p)) := by
  refine VP.of (fn := Tryz.f65) tb_ok (wk_ok rfl) (by kernel_rfl) rfl rfl rfl ?_
  refine VSt.run tb_ok false [] 200 rfl trivial ?_
  refine VSt.pcall (idxInt_ok hn hon hoc hf) rfl rfl rfl rfl rfl rfl (by
    show (true && ((AV.fn f first cap).only (olds []) && true)) = true
    rw [hon]; rfl) ?_
  refine VSt.run tb_ok false [] 200 rfl trivial ?_
  refine EndsP.mk rfl rfl rfl ?_
  show bv _ = bv _
  congr 2
  unfold idxI
  cases h : l.findIdx? p with
  | none =>
    rw [List.findIdx?_eq_none_iff] at h
    symm
    show l.any p = false
    rw [List.any_eq_false]
    exact fun x hx => by simp [h x hx]
  | some k =>
    have : l.any p = true := by
      rw [List.findIdx?_eq_some_iff_getElem] at h
      obtain ⟨hk, h, _⟩ := h
      exact List.any_eq_true.2 ⟨_, List.getElem_mem hk, h⟩
    rw [this]; exact decide_eq_true (Int.natCast_nonneg k)
theorem Index_ok {b : Bool} {l : List Int} (x : Int) (hn : l.length < 9223372036854775808) : VP (sE r) 129 [.p (eInts b l), iv x] (iv (idxI l fun y => x == y)) := by
  refine VP.of (fn := Tryz.f129) tb_ok (wk_ok rfl) (by kernel_rfl) rfl rfl rfl ?_
  refine VSt.go tb_ok false [] 200 rfl AllP.n ?_
  refine VSt.rangeT tb_ok l.length hn [0, 1, 6] (fun _ => []) (fun _ => []) (fun k => ∀ i, i < k → (x == l.getD i 0) = false) rfl rfl rfl (fun _ => rfl) rfl rfl u0_nil trivial (fun i hi => absurd hi (Nat.not_lt_zero i)) (fun k hk hp => ?_) (fun hp => ?_)
  · refine VSt.go tb_ok false [] 200 rfl (AllP.c (by assumption) (AllP.c rfl AllP.n)) ?_
    refine VSt.cond rfl (fun h => ?_) (fun h => ?_)
    · have h : (x == l.getD k 0) = true := h
      refine VSt.go tb_ok false [] 200 rfl AllP.n ?_
      refine EndsP.mk rfl rfl rfl ?_
      show iv _ = iv _
      rw [idxI_hit hk h hp]; rfl
    · have h : (x == l.getD k 0) = false := h
      refine VSt.go tb_ok false [] 200 rfl AllP.n ?_
      refine ⟨by (refine Vw.drop (by repeat (first | exact wf_nil | refine wf_back rfl rfl rfl ?_ | refine wf_cons rfl (by assumption) (ren_only _ (by assumption)) ?_))), fun i hi => ?_⟩
      by_cases e : i = k
      · subst e; exact h
      · exact hp i (by omega)
  · refine VSt.go tb_ok false [] 200 rfl AllP.n ?_
    refine EndsP.mk rfl rfl rfl ?_
    show iv _ = iv _
    rw [idxI_miss hp]
theorem idx_any (l : List Int) (p : Int → Bool) : decide (0 ≤ idxI l p) = l.any p := by
  unfold idxI
  cases h : l.findIdx? p with
  | none =>
    rw [List.findIdx?_eq_none_iff] at h
    symm
    show l.any p = false
    rw [List.any_eq_false]
    exact fun x hx => by simp [h x hx]
  | some k =>
    have : l.any p = true := by
      rw [List.findIdx?_eq_some_iff_getElem] at h
      obtain ⟨hk, h, _⟩ := h
      exact List.any_eq_true.2 ⟨_, List.getElem_mem hk, h⟩
    rw [this]; exact decide_eq_true (Int.natCast_nonneg k)
theorem contains_okW {b : Bool} {l : List Int} (x : Int) (hn : l.length < 9223372036854775808) : VP (sE r) 107 [.p (eInts b l), iv x] (bv (hasI l x)) := by
  refine VP.of (fn := Tryz.f107) tb_ok (wk_ok rfl) (by kernel_rfl) rfl rfl rfl ?_
  refine VSt.go tb_ok false [] 200 rfl AllP.n ?_
  refine VSt.pc rfl rfl rfl rfl rfl rfl rfl rfl ((Index_ok (b := b) (l := l) x (by omega))) ?_
  refine VSt.go tb_ok false [] 200 rfl AllP.n ?_
  refine EndsP.mk rfl rfl rfl ?_
  show bv _ = bv _
  congr 2
  exact idx_any l fun y => x == y
theorem common1_okW {b : Bool} {l : List Int} (x : Int) (hn : l.length < 9223372036854775808) : VP (sE r) 128 [iv x, .p (.fp [eInts b l] 0)] (bv (hasI l x)) := by
  refine VP.of (fn := Tryz.f128) tb_ok (wk_ok rfl) (by kernel_rfl) rfl rfl rfl ?_
  refine VSt.go tb_ok false [] 200 rfl AllP.n ?_
  refine VSt.pc rfl rfl rfl rfl rfl rfl rfl rfl ((contains_okW (b := b) (l := l) x hn)) ?_
  refine VSt.go tb_ok false [] 200 rfl AllP.n ?_
  exact EndsP.mk rfl rfl rfl rfl
theorem common_okW {b b2 : Bool} {l m : List Int} (hn : l.length < 9223372036854775808) (hm : m.length < 9223372036854775808) : VP (sE r) 98 [.p (eInts b l), .p (eInts b2 m)] (bv (comI l m)) := by
  refine VP.of (fn := Tryz.f98) tb_ok (wk_ok rfl) (by kernel_rfl) rfl rfl rfl ?_
  refine VSt.go tb_ok false [6] 200 rfl AllP.n ?_
  refine VSt.viewO (Vw.freezeC 0 [eInts b2 m] rfl rfl) ?_
  refine VSt.go tb_ok false [7] 200 rfl AllP.n ?_
  refine VSt.pc rfl rfl rfl rfl rfl rfl rfl rfl ((contInt_ok (b := b) (l := l) (f := 128) (first := []) (cap := [.p (.fp [eInts b2 m] 0)]) (p := hasI m) (by omega) rfl (fun _ => rfl) (fun x => common1_okW (b := b2) x hm))) ?_
  refine VSt.go tb_ok false [] 200 rfl AllP.n ?_
  exact EndsP.mk rfl rfl rfl rfl
end Go.Proofs.YtbieflpgjmgaiaaGreat
/- Walks: the program's checks of an opening, and of openings. -/
set_option maxRecDepth 100000
namespace Go.Proofs.YtbieflpgjmgaiaaGreat
variable {r : Rm}
theorem nlt {k n : Nat} (h : decide (Int.ofNat k < Int.ofNat n) = true) : k < n := by
  have := of_decide_eq_true h; simp only [Int.ofNat_eq_natCast] at this; omega
theorem nge {k n : Nat} (h : decide (Int.ofNat k < Int.ofNat n) = false) : n ≤ k := by
  have := of_decide_eq_false h; simp only [Int.ofNat_eq_natCast] at this; omega
theorem n0 {k : Nat} (h : decide ((0 : Int) < Int.ofNat k) = true) : 0 < k := by
  have := of_decide_eq_true h; simp only [Int.ofNat_eq_natCast] at this; omega
theorem n0' {k : Nat} (h : decide ((0 : Int) < Int.ofNat k) = false) : k = 0 := by
  have := of_decide_eq_false h; simp only [Int.ofNat_eq_natCast] at this; omega
theorem nt {b : Bool} (h : (!b) = true) : b = false := by cases b <;> first | rfl | cases h
theorem nf {b : Bool} (h : (!b) = false) : b = true := by cases b <;> first | rfl | cases h
theorem pred_iv {k : Nat} (h : 0 < k) : AImp (iv (Int.ofNat k - 1)) (nv (k - 1)) := iv_nv (by simp only [Int.ofNat_eq_natCast]; omega)
theorem ckO_bad {o : Opn} (h : ¬ OkO o) : ckO o = 60 := if_neg h
theorem ckO_good {o : Opn} (h : OkO o) : ckO o = 0 := if_pos h
theorem ckO_ok {o : Opn} (hz : SzW o) : VP (sE r) 48 [.agg ((eOpn o).map .p)] (iv (ckO o)) := by
  have hz1 := hz.inn
  have hz2 := hz.out
  refine VP.of (fn := Tryz.f48) tb_ok (wk_ok rfl) (by kernel_rfl) rfl rfl rfl ?_
  refine VSt.go tb_ok false [] 200 rfl AllP.n ?_
  refine VSt.pc rfl rfl rfl rfl rfl rfl rfl rfl ((within_ok o.source 1 99999)) ?_
  refine VSt.go tb_ok false [] 200 rfl AllP.n ?_
  refine VSt.splitO 7 rfl (fun a1 => ?_) (fun a1 => ?_)
  · refine VSt.go tb_ok false [] 200 rfl AllP.n ?_
    refine EndsP.mk rfl rfl rfl ?_
    rw [ckO_bad fun h => by have := h.source; rw [nt a1] at this; cases this]; rfl
  refine VSt.go tb_ok false [] 200 rfl AllP.n ?_
  refine VSt.pc rfl rfl rfl rfl rfl rfl rfl rfl ((within_ok o.register 1 2)) ?_
  refine VSt.go tb_ok false [] 200 rfl AllP.n ?_
  refine VSt.splitO 13 rfl (fun a2 => ?_) (fun a2 => ?_)
  · refine VSt.go tb_ok false [] 200 rfl AllP.n ?_
    refine EndsP.mk rfl rfl rfl ?_
    rw [ckO_bad fun h => by have := h.register; rw [nt a2] at this; cases this]; rfl
  refine VSt.go tb_ok false [] 200 rfl AllP.n ?_
  refine VSt.splitO 18 rfl (fun a3 => ?_) (fun a3 => ?_)
  · have a3 := of_decide_eq_true a3
    refine VSt.go tb_ok false [] 200 rfl AllP.n ?_
    refine EndsP.mk rfl rfl rfl ?_
    rw [ckO_bad fun h => by have := h.day; omega]; rfl
  have a3 : ¬ o.day < 0 := of_decide_eq_false a3
  refine VSt.go tb_ok false [] 200 rfl AllP.n ?_
  refine VSt.splitO 25 rfl (fun a4 => ?_) (fun a4 => ?_)
  · have a4 := of_decide_eq_true a4
    refine VSt.go tb_ok false [] 200 rfl AllP.n ?_
    refine EndsP.mk rfl rfl rfl ?_
    rw [ckO_bad fun h => by have := h.day; omega]; rfl
  have a4 : ¬ o.through < o.day := of_decide_eq_false a4
  refine VSt.go tb_ok false [] 200 rfl AllP.n ?_
  refine VSt.splitO 30 rfl (fun a5 => ?_) (fun a5 => ?_)
  · have a5 := of_decide_eq_true a5
    refine VSt.go tb_ok false [] 200 rfl AllP.n ?_
    refine EndsP.mk rfl rfl rfl ?_
    rw [ckO_bad fun h => by have := h.day; omega]; rfl
  have a5 : ¬ 100000 < o.through := of_decide_eq_false a5
  refine VSt.go tb_ok false [] 200 rfl AllP.n ?_
  refine VSt.pc rfl rfl rfl rfl rfl rfl rfl rfl ((within_ok o.lawful 0 2)) ?_
  refine VSt.go tb_ok false [] 200 rfl AllP.n ?_
  refine VSt.splitO 36 rfl (fun a6 => ?_) (fun a6 => ?_)
  · refine VSt.go tb_ok false [] 200 rfl AllP.n ?_
    refine EndsP.mk rfl rfl rfl ?_
    rw [ckO_bad fun h => by have := h.lawful; rw [nt a6] at this; cases this]; rfl
  refine VSt.go tb_ok false [] 200 rfl AllP.n ?_
  refine VSt.pc rfl rfl rfl rfl rfl rfl rfl rfl ((named_okW (b := o.inB) (l := o.inn) hz1)) ?_
  refine VSt.go tb_ok false [] 200 rfl AllP.n ?_
  refine VSt.splitO 42 rfl (fun a7 => ?_) (fun a7 => ?_)
  · refine VSt.go tb_ok false [] 200 rfl AllP.n ?_
    refine EndsP.mk rfl rfl rfl ?_
    rw [ckO_bad fun h => by have := h.inn; rw [nt a7] at this; cases this]; rfl
  refine VSt.go tb_ok false [] 200 rfl AllP.n ?_
  refine VSt.pc rfl rfl rfl rfl rfl rfl rfl rfl ((named_okW (b := o.outB) (l := o.out) hz2)) ?_
  refine VSt.go tb_ok false [] 200 rfl AllP.n ?_
  refine VSt.splitO 48 rfl (fun a8 => ?_) (fun a8 => ?_)
  · refine VSt.go tb_ok false [] 200 rfl AllP.n ?_
    refine EndsP.mk rfl rfl rfl ?_
    rw [ckO_bad fun h => by have := h.out; rw [nt a8] at this; cases this]; rfl
  refine VSt.go tb_ok false [] 200 rfl AllP.n ?_
  refine VSt.pc rfl rfl rfl rfl rfl rfl rfl rfl ((common_okW (b := o.inB) (b2 := o.outB) (l := o.inn) (m := o.out) hz1 hz2)) ?_
  refine VSt.go tb_ok false [] 200 rfl AllP.n ?_
  refine VSt.splitO 55 rfl (fun a9 => ?_) (fun a9 => ?_)
  · refine VSt.go tb_ok false [] 200 rfl AllP.n ?_
    refine EndsP.mk rfl rfl rfl ?_
    rw [ckO_bad fun h => by have := h.com; rw [a9] at this; cases this]; rfl
  refine VSt.go tb_ok false [] 200 rfl AllP.n ?_
  refine VSt.pc rfl rfl rfl rfl rfl rfl rfl rfl ((isDay_ok o.known)) ?_
  refine VSt.go tb_ok false [] 200 rfl AllP.n ?_
  refine VSt.splitO 61 rfl (fun b1 => ?_) (fun b1 => ?_)
  · refine VSt.go tb_ok false [] 200 rfl AllP.n ?_
    refine EndsP.mk rfl rfl rfl ?_
    rw [ckO_bad fun h => by have := h.known; rw [nt b1] at this; cases this]; rfl
  have hk := wth_iff.1 (nf b1)
  refine VSt.go tb_ok false [] 200 rfl AllP.n ?_
  refine VSt.splitO 65 rfl (fun b2 => ?_) (fun b2 => ?_)
  · refine VSt.go tb_ok false [] 200 rfl (AllP.c (by unfold inR; (try simp only [Int.ofNat_eq_natCast]); omega) AllP.n) ?_
    refine VSt.pc rfl rfl rfl rfl rfl rfl rfl rfl ((within_ok o.until_ (o.known + 1) 100000)) ?_
    refine VSt.go tb_ok false [] 200 rfl AllP.n ?_
    refine VSt.cond rfl (fun b3 => ?_) (fun b3 => ?_)
    · refine VSt.go tb_ok false [] 200 rfl AllP.n ?_
      refine EndsP.mk rfl rfl rfl ?_
      rw [ckO_bad fun h => by
        have := h.until_ (fun e => by have b2 : (!(o.until_ == 0)) = true := b2; rw [e] at b2; cases b2)
        rw [nt b3] at this; cases this]; rfl
    · refine VSt.go tb_ok false [] 200 rfl AllP.n ?_
      refine EndsP.mk rfl rfl rfl ?_
      rw [ckO_good ⟨nf a1, nf a2, by omega, nf a6, nf a7, nf a8, a9, nf b1, fun _ => nf b3⟩]; rfl
  · refine VSt.go tb_ok false [] 200 rfl AllP.n ?_
    refine EndsP.mk rfl rfl rfl ?_
    rw [ckO_good ⟨nf a1, nf a2, by omega, nf a6, nf a7, nf a8, a9, nf b1, fun e => absurd (by have b2 : (!(o.until_ == 0)) = false := b2; simpa using b2) e⟩]; rfl
theorem meet_ok (a b : Opn) : VP (sE r) 101 [.agg ((eOpn a).map .p), .agg ((eOpn b).map .p)] (bv (meetB a b)) := by
  refine VP.of (fn := Tryz.f101) tb_ok (wk_ok rfl) (by kernel_rfl) rfl rfl rfl ?_
  refine VSt.go tb_ok false [] 200 rfl AllP.n ?_
  refine VSt.splitO 10 rfl (fun h => ?_) (fun h => ?_)
  · refine VSt.go tb_ok false [] 200 rfl AllP.n ?_
    refine EndsP.mk rfl rfl rfl ?_
    show bv _ = bv _
    unfold meetB; rw [h]; rfl
  · refine VSt.go tb_ok false [] 200 rfl AllP.n ?_
    refine EndsP.mk rfl rfl rfl ?_
    show bv _ = bv _
    unfold meetB; rw [h]; rfl
theorem ever_ok (a b : Opn) : VP (sE r) 102 [.agg ((eOpn a).map .p), .agg ((eOpn b).map .p)] (bv (everB a b)) := by
  refine VP.of (fn := Tryz.f102) tb_ok (wk_ok rfl) (by kernel_rfl) rfl rfl rfl ?_
  have snd : ∀ (x : Bool), (a.until_ == 0 || decide (b.known < a.until_)) = x → everB a b = (x && (b.until_ == 0 || decide (a.known < b.until_))) := fun x h => by unfold everB; rw [h]
  refine VSt.go tb_ok false [] 200 rfl AllP.n ?_
  refine VSt.splitO 8 rfl (fun h1 => ?_) (fun h1 => ?_)
  · have e := snd true (by rw [h1]; rfl)
    refine VSt.go tb_ok false [] 200 rfl AllP.n ?_
    refine VSt.splitO 19 rfl (fun h2 => ?_) (fun h2 => ?_)
    · refine VSt.go tb_ok false [] 200 rfl AllP.n ?_
      refine EndsP.mk rfl rfl rfl ?_
      show bv _ = bv _
      rw [e, h2]; rfl
    · refine VSt.go tb_ok false [] 200 rfl AllP.n ?_
      refine EndsP.mk rfl rfl rfl ?_
      show bv _ = bv _
      rw [e, h2]; rfl
  · refine VSt.go tb_ok false [] 200 rfl AllP.n ?_
    refine VSt.splitO 15 rfl (fun h3 => ?_) (fun h3 => ?_)
    · have e := snd true (by rw [h1, h3]; rfl)
      refine VSt.go tb_ok false [] 200 rfl AllP.n ?_
      refine VSt.splitO 19 rfl (fun h2 => ?_) (fun h2 => ?_)
      · refine VSt.go tb_ok false [] 200 rfl AllP.n ?_
        refine EndsP.mk rfl rfl rfl ?_
        show bv _ = bv _
        rw [e, h2]; rfl
      · refine VSt.go tb_ok false [] 200 rfl AllP.n ?_
        refine EndsP.mk rfl rfl rfl ?_
        show bv _ = bv _
        rw [e, h2]; rfl
    · have e := snd false (by rw [h1, h3]; rfl)
      refine VSt.go tb_ok false [] 200 rfl AllP.n ?_
      refine EndsP.mk rfl rfl rfl ?_
      show bv _ = bv _
      rw [e]; rfl
structure SzsW (l : List Opn) : Prop where
  len : l.length < 9223372036854775808
  each : ∀ k, k < l.length → SzW (nth l k)
structure Szs (l : List Opn) : Prop where
  len : l.length < 1000000
  each : ∀ k, k < l.length → Sz (nth l k)
theorem Szs.mem {l : List Opn} (h : Szs l) {o : Opn} (ho : o ∈ l) : Sz o := by
  obtain ⟨k, hk, rfl⟩ := mem_getD (d := default) ho
  exact h.each k hk
theorem namedB_len {l : List Int} (h : namedB l = true) : l.length ≤ 8 := by
  unfold namedB at h
  rw [Bool.and_eq_true] at h
  exact of_decide_eq_true h.2
theorem OkO.sz {o : Opn} (h : OkO o) : Sz o := ⟨by have := namedB_len h.inn; omega, by have := namedB_len h.out; omega⟩
theorem Reg.szs {l : List Opn} (h : Reg l) : Szs l := ⟨by have := h.len; omega, fun k hk => (h.ok k hk).sz⟩
structure RegTo (l : List Opn) (k : Nat) : Prop where
  ok : ∀ i, i < k → OkO (nth l i)
  rise : ∀ i, 0 < i → i < k → (nth l (i - 1)).source < (nth l i).source
  apart : ∀ i, i < k → ∀ j, j < i → hit (nth l j) (nth l i) = false
theorem RegTo.zero (l : List Opn) : RegTo l 0 := ⟨fun i hi => absurd hi (Nat.not_lt_zero i), fun i _ hi => absurd hi (Nat.not_lt_zero i), fun i hi => absurd hi (Nat.not_lt_zero i)⟩
theorem RegTo.succ {l : List Opn} {k : Nat} (h : RegTo l k) (h1 : OkO (nth l k)) (h2 : 0 < k → (nth l (k - 1)).source < (nth l k).source) (h3 : ∀ j, j < k → hit (nth l j) (nth l k) = false) : RegTo l (k + 1) := by
  refine ⟨fun i hi => ?_, fun i h0 hi => ?_, fun i hi => ?_⟩
  · by_cases e : i = k
    · subst e; exact h1
    · exact h.ok i (by omega)
  · by_cases e : i = k
    · subst e; exact h2 h0
    · exact h.rise i h0 (by omega)
  · by_cases e : i = k
    · subst e; exact h3
    · exact h.apart i (by omega)
theorem ckReg_bad {l : List Opn} (h : ¬ Reg l) : ckReg l = 61 := if_neg h
theorem ckReg_good {l : List Opn} (h : RegTo l l.length) (hl : l.length ≤ 60) : ckReg l = 0 := if_pos ⟨hl, h.ok, h.rise, h.apart⟩
theorem check_ok {b : Bool} {l : List Opn} (hz : SzsW l) : VP (sE r) 50 [.p (eOpns b l)] (iv (ckReg l)) := by
  have hn := hz.len
  refine VP.of (fn := Tryz.f50) tb_ok (wk_ok rfl) (by kernel_rfl) rfl rfl rfl ?_
  refine VSt.go tb_ok false [] 200 rfl AllP.n ?_
  refine VSt.cond rfl (fun h1 => ?_) (fun h1 => ?_)
  · have h1 := of_decide_eq_true h1
    refine VSt.go tb_ok false [] 200 rfl AllP.n ?_
    refine EndsP.mk rfl rfl rfl ?_
    rw [ckReg_bad fun h => by have := h.len; simp only [Int.ofNat_eq_natCast] at h1; omega]; rfl
  have hl : l.length ≤ 60 := by have h1 := of_decide_eq_false h1; simp only [Int.ofNat_eq_natCast] at h1; omega
  refine VSt.go tb_ok false [] 200 rfl AllP.n ?_
  refine VSt.rangeT tb_ok l.length (by omega) [0, 10] (fun _ => []) (fun _ => []) (fun k => RegTo l k) rfl rfl rfl (fun _ => rfl) rfl rfl u0_nil trivial (RegTo.zero l) (fun k hk hp => ?_) (fun hp => ?_)
  · have hzk := hz.each k hk
    refine VSt.go tb_ok false [] 200 rfl (AllP.c (by assumption) (AllP.c rfl AllP.n)) ?_
    refine VSt.pcD rfl rfl rfl rfl rfl rfl rfl rfl ((ckO_ok (o := nth l k) hzk)) ?_
    refine VSt.go tb_ok false [] 200 rfl AllP.n ?_
    refine VSt.splitD 20 rfl (fun a1 => ?_) (fun a1 => ?_)
    · have a1 : (!(ckO (nth l k) == 0)) = true := a1
      refine VSt.go tb_ok false [] 200 rfl AllP.n ?_
      refine EndsP.mk rfl rfl rfl ?_
      rw [ckReg_bad fun h => by rw [ckO_good (h.ok k hk)] at a1; cases a1]; rfl
    have hO : OkO (nth l k) := Classical.byContradiction fun hno => by
      have a1 : (!(ckO (nth l k) == 0)) = false := a1
      rw [ckO_bad hno] at a1; cases a1
    refine VSt.go tb_ok false [] 200 rfl AllP.n ?_
    refine VSt.splitD 23 rfl (fun a2 => ?x1) (fun a2 => ?x2)
    case' x1 =>
      have h0 := n0 a2
      refine VSt.go tb_ok false [27] 200 rfl (AllP.c (by unfold inR; (try simp only [Int.ofNat_eq_natCast]); omega) AllP.n) ?_
      refine VSt.putD 26 (nv (k - 1)) rfl (pred_iv h0) ?_
      refine VSt.go tb_ok false [] 200 rfl (AllP.c (by omega) (AllP.c rfl AllP.n)) ?_
      refine VSt.cond rfl (fun a3 => ?_) (fun a3 => ?_)
      · have a3 : (nth l k).source ≤ (nth l (k - 1)).source := of_decide_eq_true a3
        refine VSt.go tb_ok false [] 200 rfl AllP.n ?_
        refine EndsP.mk rfl rfl rfl ?_
        rw [ckReg_bad fun h => by have := h.rise k h0 hk; omega]; rfl
      have hri : 0 < k → (nth l (k - 1)).source < (nth l k).source := fun _ => by have a3 : ¬ (nth l k).source ≤ (nth l (k - 1)).source := of_decide_eq_false a3; omega
    case' x2 =>
      have hri : 0 < k → (nth l (k - 1)).source < (nth l k).source := fun h => absurd (n0' a2) (by omega)
    all_goals
      refine VSt.go tb_ok false [38] 200 rfl (AllP.c (by omega) (AllP.c (by omega) (AllP.c (fun _ _ => rfl) AllP.n))) ?_
      refine VSt.putO 37 (.p (.lst 45 b k fun j => eOpn (nth l j))) rfl (AImp.lst fun j _ => by rw [Nat.zero_add]) ?_
      refine VSt.go tb_ok false [] 200 rfl AllP.n ?_
      refine VSt.viewC (Vw.kp [0, 4, 10, 11, 12, 37, 38, 39] [(0, 0)] rfl) ?_
      refine VSt.viewC (Vw.freezeC 0 (eOpn (nth l k)) rfl rfl) ?_
      refine VSt.rangeT tb_ok k (by omega) [0, 4, 10, 11, 12, 37] (fun _ => []) (fun _ => []) (fun j => ∀ i, i < j → hit (nth l i) (nth l k) = false) rfl rfl rfl (fun _ => rfl) rfl rfl u0_nil trivial (fun i hi => absurd hi (Nat.not_lt_zero i)) (fun j hj hq => ?_) (fun hq => ?_)
      · have hjl : j < l.length := by omega
        have bad : hit (nth l j) (nth l k) = true → ckReg l = 61 := fun h => ckReg_bad fun hR => by rw [hR.apart k hk j hj] at h; cases h
        have step : hit (nth l j) (nth l k) = false → ∀ i, i < j + 1 → hit (nth l i) (nth l k) = false := fun h i hi => by
          by_cases e : i = j
          · subst e; exact h
          · exact hq i (by omega)
        refine VSt.go tb_ok false [] 200 rfl (AllP.c (by assumption) (AllP.c rfl AllP.n)) ?_
        refine VSt.splitO 48 rfl (fun b1 => ?_) (fun b1 => ?_)
        · refine VSt.go tb_ok false [] 200 rfl AllP.n ?_
          refine VSt.pc rfl rfl rfl rfl rfl rfl rfl rfl ((meet_ok (nth l j) (nth l k))) ?_
          refine VSt.go tb_ok false [] 200 rfl AllP.n ?_
          refine VSt.splitO 53 rfl (fun b2 => ?_) (fun b2 => ?_)
          · refine VSt.go tb_ok false [] 200 rfl AllP.n ?_
            refine VSt.pc rfl rfl rfl rfl rfl rfl rfl rfl ((ever_ok (nth l j) (nth l k))) ?_
            refine VSt.go tb_ok false [] 200 rfl AllP.n ?_
            refine VSt.cond rfl (fun b3 => ?_) (fun b3 => ?_)
            · refine VSt.go tb_ok false [] 200 rfl AllP.n ?_
              refine EndsP.mk rfl rfl rfl ?_
              rw [bad (by unfold hit; rw [b1, b2, b3]; rfl)]; rfl
            · refine VSt.go tb_ok false [] 200 rfl AllP.n ?_
              exact ⟨by (refine Vw.drop (by repeat (first | exact wf_nil | refine wf_back rfl rfl rfl ?_ | refine wf_cons rfl (by assumption) (ren_only _ (by assumption)) ?_))), step (by unfold hit; rw [b1, b2, b3]; rfl)⟩
          · refine VSt.go tb_ok false [] 200 rfl AllP.n ?_
            exact ⟨by (refine Vw.drop (by repeat (first | exact wf_nil | refine wf_back rfl rfl rfl ?_ | refine wf_cons rfl (by assumption) (ren_only _ (by assumption)) ?_))), step (by unfold hit; rw [b1, b2]; rfl)⟩
        · refine VSt.go tb_ok false [] 200 rfl AllP.n ?_
          exact ⟨by (refine Vw.drop (by repeat (first | exact wf_nil | refine wf_back rfl rfl rfl ?_ | refine wf_cons rfl (by assumption) (ren_only _ (by assumption)) ?_))), step (by unfold hit; rw [b1]; rfl)⟩
      · refine VSt.go tb_ok false [] 200 rfl AllP.n ?_
        exact ⟨by (refine Vw.drop (by repeat (first | exact wf_nil | refine wf_back rfl rfl rfl ?_ | refine wf_cons rfl (by assumption) (ren_only _ (by assumption)) ?_))), hp.succ hO hri hq⟩
  · refine VSt.go tb_ok false [] 200 rfl AllP.n ?_
    refine EndsP.mk rfl rfl rfl ?_
    rw [ckReg_good hp hl]; rfl
end Go.Proofs.YtbieflpgjmgaiaaGreat
/- Walks: the reference's checks of an opening, and of openings. -/
set_option maxRecDepth 100000
namespace Go.Proofs.YtbieflpgjmgaiaaGreat
variable {r : Rm}
theorem rIn_ok (n lo hi : Int) : VP (sE r) 61 [iv n, iv lo, iv hi] (bv (wth n lo hi)) := by
  refine VP.of (fn := Tryz.f61) tb_ok (wk_ok rfl) (by kernel_rfl) rfl rfl rfl ?_
  refine VSt.go tb_ok false [] 200 rfl AllP.n ?_
  refine VSt.splitO 10 rfl (fun h => ?_) (fun h => ?_)
  · refine VSt.go tb_ok false [] 200 rfl AllP.n ?_
    refine EndsP.mk rfl rfl rfl ?_
    show bv _ = bv _
    unfold wth; rw [show decide (lo ≤ n) = true from h]; rfl
  · refine VSt.go tb_ok false [] 200 rfl AllP.n ?_
    refine EndsP.mk rfl rfl rfl ?_
    show bv _ = bv _
    unfold wth; rw [show decide (lo ≤ n) = false from h]; rfl
theorem rDay_ok (n : Int) : VP (sE r) 62 [iv n] (bv (wth n 0 100000)) := by
  refine VP.of (fn := Tryz.f62) tb_ok (wk_ok rfl) (by kernel_rfl) rfl rfl rfl ?_
  refine VSt.go tb_ok false [] 200 rfl AllP.n ?_
  refine VSt.pc rfl rfl rfl rfl rfl rfl rfl rfl ((rIn_ok n 0 100000)) ?_
  refine VSt.go tb_ok false [] 200 rfl AllP.n ?_
  exact EndsP.mk rfl rfl rfl rfl
theorem any_to {α : Type} {l : List α} {p : α → Bool} {d : α} (h : ∀ i, i < l.length → p (l.getD i d) = false) : l.any p = false := by
  rw [List.any_eq_false]
  intro x hx
  obtain ⟨k, hk, rfl⟩ := mem_getD (d := d) hx
  rw [h k hk]; decide
theorem any_at {α : Type} {l : List α} {p : α → Bool} {d : α} {k : Nat} (hk : k < l.length) (h : p (l.getD k d) = true) : l.any p = true := List.any_eq_true.2 ⟨_, getD_mem hk, h⟩
theorem snoc_all {p : Nat → Prop} {k : Nat} (h : ∀ i, i < k → p i) (hk : p k) : ∀ i, i < k + 1 → p i := fun i hi => by
  by_cases e : i = k
  · subst e; exact hk
  · exact h i (by omega)
theorem none0 {p : Nat → Prop} : ∀ i, i < 0 → p i := fun i hi => absurd hi (Nat.not_lt_zero i)
theorem rHas_okW {b : Bool} {l : List Int} {n : Int} (hn : l.length < 9223372036854775808) : VP (sE r) 31 [.p (eInts b l), iv n] (bv (hasI l n)) := by
  refine VP.of (fn := Tryz.f31) tb_ok (wk_ok rfl) (by kernel_rfl) rfl rfl rfl ?_
  refine VSt.go tb_ok false [] 200 rfl AllP.n ?_
  refine VSt.loopT (ti := 5) l.length [0, 1] (fun _ => []) (fun _ => []) (fun k => ∀ i, i < k → (n == l.getD i 0) = false) rfl rfl u0_nil trivial none0 (fun k hk hp => ?_)
  refine VSt.go tb_ok false [] 200 rfl AllP.n ?_
  refine VSt.cond rfl (fun h => ?_) (fun h => ?_)
  · have h := nlt h
    refine VSt.go tb_ok false [] 200 rfl (AllP.c (by assumption) (AllP.c rfl AllP.n)) ?_
    refine VSt.cond rfl (fun h1 => ?_) (fun h1 => ?_)
    · have h1 : (l.getD k 0 == n) = true := h1
      refine VSt.go tb_ok false [] 200 rfl AllP.n ?_
      refine EndsP.mk rfl rfl rfl ?_
      show bv true = bv _
      unfold hasI
      rw [any_at (d := 0) h (by rw [show l.getD k 0 = n by simpa using h1]; simp)]
    · have h1 : (l.getD k 0 == n) = false := h1
      refine VSt.go tb_ok false [] 200 rfl (AllP.c (by unfold inR; (try simp only [Int.ofNat_eq_natCast]); omega) AllP.n) ?_
      refine ⟨h, by (refine Vw.drop (by repeat (first | exact wf_nil | refine wf_back rfl rfl rfl ?_ | refine wf_cons rfl (by assumption) (ren_only _ (by assumption)) ?_))), snoc_all hp ?_⟩
      rw [← h1, Bool.eq_iff_iff]; simp only [beq_iff_eq]; exact eq_comm
  · have h : k = l.length := by have := nge h; omega
    subst h
    refine VSt.go tb_ok false [] 200 rfl AllP.n ?_
    refine EndsP.mk rfl rfl rfl ?_
    show bv false = bv _
    unfold hasI
    rw [any_to (d := 0) hp]
theorem rNamed_okW {b : Bool} {l : List Int} (hn : l.length < 9223372036854775808) : VP (sE r) 100 [.p (eInts b l)] (bv (namedB l)) := by
  refine VP.of (fn := Tryz.f100) tb_ok (wk_ok rfl) (by kernel_rfl) rfl rfl rfl ?_
  refine VSt.go tb_ok false [] 200 rfl AllP.n ?_
  refine VSt.loopT (ti := 3) l.length [0] (fun _ => []) (fun _ => []) (fun k => ∀ i, i < k → nameB l i = true) rfl rfl u0_nil trivial none0 (fun k hk hp => ?_)
  refine VSt.go tb_ok false [] 200 rfl AllP.n ?_
  refine VSt.cond rfl (fun h => ?_) (fun h => ?_)
  · have hk := nlt h
    have bad : nameB l k = false → namedB l = false := fun h => by unfold namedB; rw [allB_not hk h]; rfl
    refine VSt.go tb_ok false [] 200 rfl (AllP.c (by assumption) (AllP.c rfl AllP.n)) ?_
    refine VSt.pcD rfl rfl rfl rfl rfl rfl rfl rfl ((rIn_ok (l.getD k 0) 1 999)) ?_
    refine VSt.go tb_ok false [] 200 rfl AllP.n ?_
    refine VSt.splitD 16 rfl (fun h1 => ?_) (fun h1 => ?_)
    · refine VSt.go tb_ok false [] 200 rfl AllP.n ?_
      refine EndsP.mk rfl rfl rfl ?_
      rw [bad (by unfold nameB; rw [nt h1]; rfl)]; rfl
    have h1 := nf h1
    refine VSt.go tb_ok false [] 200 rfl AllP.n ?_
    refine VSt.splitD 19 rfl (fun h2 => ?_) (fun h2 => ?_)
    · have h2 := n0 h2
      refine VSt.go tb_ok false [23] 200 rfl (AllP.c (by unfold inR; (try simp only [Int.ofNat_eq_natCast]); omega) AllP.n) ?_
      refine VSt.putD 22 (nv (k - 1)) rfl (pred_iv h2) ?_
      refine VSt.go tb_ok false [] 200 rfl (AllP.c (by omega) (AllP.c rfl (AllP.c (by assumption) (AllP.c rfl AllP.n)))) ?_
      refine VSt.cond rfl (fun h3 => ?_) (fun h3 => ?_)
      · have h3 : l.getD k 0 ≤ l.getD (k - 1) 0 := of_decide_eq_true h3
        refine VSt.go tb_ok false [] 200 rfl AllP.n ?_
        refine EndsP.mk rfl rfl rfl ?_
        rw [bad (by unfold nameB; rw [decide_eq_false (by omega : ¬ l.getD (k - 1) 0 < l.getD k 0), beq_ne (show k ≠ 0 by omega)]; simp)]; rfl
      · have h3 : ¬ l.getD k 0 ≤ l.getD (k - 1) 0 := of_decide_eq_false h3
        refine VSt.go tb_ok false [] 200 rfl (AllP.c (by unfold inR; (try simp only [Int.ofNat_eq_natCast]); omega) AllP.n) ?_
        refine ⟨hk, by (refine Vw.drop (by repeat (first | exact wf_nil | refine wf_back rfl rfl rfl ?_ | refine wf_cons rfl (by assumption) (ren_only _ (by assumption)) ?_))), snoc_all hp ?_⟩
        unfold nameB; rw [decide_eq_true (by omega : l.getD (k - 1) 0 < l.getD k 0), h1]; simp
    · have h2 := n0' h2
      refine VSt.go tb_ok false [] 200 rfl (AllP.c (by unfold inR; (try simp only [Int.ofNat_eq_natCast]); omega) AllP.n) ?_
      refine ⟨hk, by (refine Vw.drop (by repeat (first | exact wf_nil | refine wf_back rfl rfl rfl ?_ | refine wf_cons rfl (by assumption) (ren_only _ (by assumption)) ?_))), snoc_all hp ?_⟩
      unfold nameB; rw [h1, h2]; rfl
  · have h : k = l.length := by have := nge h; omega
    subst h
    refine VSt.go tb_ok false [] 200 rfl AllP.n ?_
    refine EndsP.mk rfl rfl rfl ?_
    show bv (decide (Int.ofNat l.length ≤ 8)) = bv _
    unfold namedB
    rw [allB_iff.2 hp, Bool.true_and]
    congr 2
    exact propext ⟨fun h => by simp only [Int.ofNat_eq_natCast] at h; omega, fun h => by simp only [Int.ofNat_eq_natCast]; omega⟩
def endI (o : Opn) : Int := if o.until_ = 0 then 100001 else o.until_
theorem end_ok (o : Opn) : VP (sE r) 104 [.agg ((eOpn o).map .p)] (iv (endI o)) := by
  refine VP.of (fn := Tryz.f104) tb_ok (wk_ok rfl) (by kernel_rfl) rfl rfl rfl ?_
  refine VSt.go tb_ok false [] 200 rfl AllP.n ?_
  refine VSt.cond rfl (fun h => ?_) (fun h => ?_)
  · have h : (o.until_ == 0) = true := h
    refine VSt.go tb_ok false [] 200 rfl AllP.n ?_
    refine EndsP.mk rfl rfl rfl ?_
    unfold endI; rw [if_pos (by simpa using h)]; rfl
  · have h : (o.until_ == 0) = false := h
    refine VSt.go tb_ok false [] 200 rfl AllP.n ?_
    refine EndsP.mk rfl rfl rfl ?_
    unfold endI; rw [if_neg (by simpa using h)]; rfl
theorem end_lt {a b : Opn} (hb : b.known ≤ 100000) : (a.until_ == 0 || decide (b.known < a.until_)) = decide (b.known < endI a) := by
  unfold endI
  by_cases h : a.until_ = 0
  · rw [if_pos h, h, decide_eq_true (by omega : b.known < 100001)]; rfl
  · rw [if_neg h, beq_false_of_ne h]; rfl
theorem share_ok (a b : Opn) : VP (sE r) 103 [.agg ((eOpn a).map .p), .agg ((eOpn b).map .p)] (bv (meetB a b)) := by
  refine VP.of (fn := Tryz.f103) tb_ok (wk_ok rfl) (by kernel_rfl) rfl rfl rfl ?_
  refine VSt.go tb_ok false [] 200 rfl AllP.n ?_
  refine VSt.splitO 10 rfl (fun h => ?_) (fun h => ?_)
  · refine VSt.go tb_ok false [] 200 rfl AllP.n ?_
    refine EndsP.mk rfl rfl rfl ?_
    show bv _ = bv _
    unfold meetB; rw [h]; rfl
  · refine VSt.go tb_ok false [] 200 rfl AllP.n ?_
    refine EndsP.mk rfl rfl rfl ?_
    show bv _ = bv _
    unfold meetB; rw [h]; rfl
theorem rCkO_ok {o : Opn} (hz : SzW o) : VP (sE r) 49 [.agg ((eOpn o).map .p)] (iv (ckO o)) := by
  have hz1 := hz.inn
  have hz2 := hz.out
  refine VP.of (fn := Tryz.f49) tb_ok (wk_ok rfl) (by kernel_rfl) rfl rfl rfl ?_
  refine VSt.go tb_ok false [] 200 rfl AllP.n ?_
  refine VSt.pc rfl rfl rfl rfl rfl rfl rfl rfl ((rIn_ok o.source 1 99999)) ?_
  refine VSt.go tb_ok false [] 200 rfl AllP.n ?_
  refine VSt.splitO 8 rfl (fun a1 => ?_) (fun a1 => ?_)
  · refine VSt.go tb_ok false [] 200 rfl AllP.n ?_
    refine EndsP.mk rfl rfl rfl ?_
    rw [ckO_bad fun h => by have := h.source; rw [nt a1] at this; cases this]; rfl
  refine VSt.go tb_ok false [] 200 rfl AllP.n ?_
  refine VSt.pc rfl rfl rfl rfl rfl rfl rfl rfl ((rIn_ok o.register 1 2)) ?_
  refine VSt.go tb_ok false [] 200 rfl AllP.n ?_
  refine VSt.splitO 14 rfl (fun a2 => ?_) (fun a2 => ?_)
  · refine VSt.go tb_ok false [] 200 rfl AllP.n ?_
    refine EndsP.mk rfl rfl rfl ?_
    rw [ckO_bad fun h => by have := h.register; rw [nt a2] at this; cases this]; rfl
  refine VSt.go tb_ok false [] 200 rfl AllP.n ?_
  refine VSt.pc rfl rfl rfl rfl rfl rfl rfl rfl ((rIn_ok o.day 0 o.through)) ?_
  refine VSt.go tb_ok false [] 200 rfl AllP.n ?_
  refine VSt.splitO 22 rfl (fun a3 => ?_) (fun a3 => ?_)
  · refine VSt.go tb_ok false [] 200 rfl AllP.n ?_
    refine EndsP.mk rfl rfl rfl ?_
    rw [ckO_bad fun h => by
      have h1 := h.day
      rw [wth_iff.2 ⟨h1.1, h1.2.1⟩] at a3; cases a3]; rfl
  have c3 := wth_iff.1 (nf a3)
  refine VSt.go tb_ok false [] 200 rfl AllP.n ?_
  refine VSt.pc rfl rfl rfl rfl rfl rfl rfl rfl ((rDay_ok o.through)) ?_
  refine VSt.go tb_ok false [] 200 rfl AllP.n ?_
  refine VSt.splitO 28 rfl (fun a4 => ?_) (fun a4 => ?_)
  · refine VSt.go tb_ok false [] 200 rfl AllP.n ?_
    refine EndsP.mk rfl rfl rfl ?_
    rw [ckO_bad fun h => by
      have h1 := h.day
      rw [wth_iff.2 ⟨by omega, h1.2.2⟩] at a4; cases a4]; rfl
  have c4 := wth_iff.1 (nf a4)
  refine VSt.go tb_ok false [] 200 rfl AllP.n ?_
  refine VSt.pc rfl rfl rfl rfl rfl rfl rfl rfl ((rIn_ok o.lawful 0 2)) ?_
  refine VSt.go tb_ok false [] 200 rfl AllP.n ?_
  refine VSt.splitO 34 rfl (fun a6 => ?_) (fun a6 => ?_)
  · refine VSt.go tb_ok false [] 200 rfl AllP.n ?_
    refine EndsP.mk rfl rfl rfl ?_
    rw [ckO_bad fun h => by have := h.lawful; rw [nt a6] at this; cases this]; rfl
  refine VSt.go tb_ok false [] 200 rfl AllP.n ?_
  refine VSt.pc rfl rfl rfl rfl rfl rfl rfl rfl ((rNamed_okW (b := o.inB) (l := o.inn) hz1)) ?_
  refine VSt.go tb_ok false [] 200 rfl AllP.n ?_
  refine VSt.splitO 40 rfl (fun a7 => ?_) (fun a7 => ?_)
  · refine VSt.go tb_ok false [] 200 rfl AllP.n ?_
    refine EndsP.mk rfl rfl rfl ?_
    rw [ckO_bad fun h => by have := h.inn; rw [nt a7] at this; cases this]; rfl
  refine VSt.go tb_ok false [] 200 rfl AllP.n ?_
  refine VSt.pc rfl rfl rfl rfl rfl rfl rfl rfl ((rNamed_okW (b := o.outB) (l := o.out) hz2)) ?_
  refine VSt.go tb_ok false [] 200 rfl AllP.n ?_
  refine VSt.splitO 46 rfl (fun a8 => ?_) (fun a8 => ?_)
  · refine VSt.go tb_ok false [] 200 rfl AllP.n ?_
    refine EndsP.mk rfl rfl rfl ?_
    rw [ckO_bad fun h => by have := h.out; rw [nt a8] at this; cases this]; rfl
  refine VSt.go tb_ok false [] 200 rfl AllP.n ?_
  refine VSt.pc rfl rfl rfl rfl rfl rfl rfl rfl ((rDay_ok o.known)) ?_
  refine VSt.go tb_ok false [] 200 rfl AllP.n ?_
  refine VSt.splitO 52 rfl (fun b1 => ?_) (fun b1 => ?_)
  · refine VSt.go tb_ok false [] 200 rfl AllP.n ?_
    refine EndsP.mk rfl rfl rfl ?_
    rw [ckO_bad fun h => by have := h.known; rw [nt b1] at this; cases this]; rfl
  have hk := wth_iff.1 (nf b1)
  refine VSt.go tb_ok false [] 200 rfl AllP.n ?_
  refine VSt.splitO 56 rfl (fun b2 => ?x1) (fun b2 => ?x2)
  case' x1 =>
    refine VSt.go tb_ok false [] 200 rfl (AllP.c (by unfold inR; (try simp only [Int.ofNat_eq_natCast]); omega) AllP.n) ?_
    refine VSt.pc rfl rfl rfl rfl rfl rfl rfl rfl ((rIn_ok o.until_ (o.known + 1) 100000)) ?_
    refine VSt.go tb_ok false [] 200 rfl AllP.n ?_
    refine VSt.cond rfl (fun b3 => ?_) (fun b3 => ?_)
    · refine VSt.go tb_ok false [] 200 rfl AllP.n ?_
      refine EndsP.mk rfl rfl rfl ?_
      rw [ckO_bad fun h => by
        have := h.until_ (fun e => by have b2 : (!(o.until_ == 0)) = true := b2; rw [e] at b2; cases b2)
        rw [nt b3] at this; cases this]; rfl
    have hu : o.until_ ≠ 0 → wth o.until_ (o.known + 1) 100000 = true := fun _ => nf b3
  case' x2 =>
    have hu : o.until_ ≠ 0 → wth o.until_ (o.known + 1) 100000 = true := fun e => absurd (by have b2 : (!(o.until_ == 0)) = false := b2; simpa using b2) e
  all_goals
    refine VSt.go tb_ok false [] 200 rfl AllP.n ?_
    refine VSt.viewC (Vw.freezeC 0 (eOpn o) rfl rfl) ?_
    refine VSt.loopT (ti := 3) o.inn.length [1] (fun _ => []) (fun _ => []) (fun k => ∀ i, i < k → hasI o.out (o.inn.getD i 0) = false) rfl rfl u0_nil trivial none0 (fun k hk hp => ?_)
    refine VSt.go tb_ok false [] 200 rfl AllP.n ?_
    refine VSt.cond rfl (fun h => ?_) (fun h => ?_)
    · have h := nlt h
      refine VSt.go tb_ok false [] 200 rfl (AllP.c (by assumption) (AllP.c rfl AllP.n)) ?_
      refine VSt.pcD rfl rfl rfl rfl rfl rfl rfl rfl ((rHas_okW (b := o.outB) (l := o.out) (n := o.inn.getD k 0) hz2)) ?_
      refine VSt.go tb_ok false [] 200 rfl AllP.n ?_
      refine VSt.cond rfl (fun h1 => ?_) (fun h1 => ?_)
      · refine VSt.go tb_ok false [] 200 rfl AllP.n ?_
        refine EndsP.mk rfl rfl rfl ?_
        rw [ckO_bad fun h2 => by
          have := h2.com
          unfold comI at this
          rw [any_at (d := 0) h h1] at this; cases this]; rfl
      · refine VSt.go tb_ok false [] 200 rfl (AllP.c (by unfold inR; (try simp only [Int.ofNat_eq_natCast]); omega) AllP.n) ?_
        exact ⟨h, by (refine Vw.drop (by repeat (first | exact wf_nil | refine wf_back rfl rfl rfl ?_ | refine wf_cons rfl (by assumption) (ren_only _ (by assumption)) ?_))), snoc_all hp h1⟩
    · have h : k = o.inn.length := by have := nge h; omega
      subst h
      refine VSt.go tb_ok false [] 200 rfl AllP.n ?_
      refine EndsP.mk rfl rfl rfl ?_
      rw [ckO_good ⟨nf a1, nf a2, by omega, nf a6, nf a7, nf a8, any_to (d := 0) hp, nf b1, hu⟩]; rfl
end Go.Proofs.YtbieflpgjmgaiaaGreat
/- Walks: the reference's check of openings; what is asked. -/
set_option maxRecDepth 100000
namespace Go.Proofs.YtbieflpgjmgaiaaGreat
variable {r : Rm}
theorem ckReg_badO {l : List Opn} {k : Nat} (hk : k < l.length) (h : (!(ckO (nth l k) == 0)) = true) : ckReg l = 61 := ckReg_bad fun hR => by rw [ckO_good (hR.ok k hk)] at h; cases h
theorem ok_of {l : List Opn} {k : Nat} (h : (!(ckO (nth l k) == 0)) = false) : OkO (nth l k) := Classical.byContradiction fun hno => by rw [ckO_bad hno] at h; cases h
theorem rCheck_ok {b : Bool} {l : List Opn} (hz : SzsW l) : VP (sE r) 51 [.p (eOpns b l)] (iv (ckReg l)) := by
  have hn := hz.len
  refine VP.of (fn := Tryz.f51) tb_ok (wk_ok rfl) (by kernel_rfl) rfl rfl rfl ?_
  refine VSt.go tb_ok false [] 200 rfl AllP.n ?_
  refine VSt.cond rfl (fun h1 => ?_) (fun h1 => ?_)
  · have h1 := of_decide_eq_true h1
    refine VSt.go tb_ok false [] 200 rfl AllP.n ?_
    refine EndsP.mk rfl rfl rfl ?_
    rw [ckReg_bad fun h => by have := h.len; simp only [Int.ofNat_eq_natCast] at h1; omega]; rfl
  have hl : l.length ≤ 60 := by have h1 := of_decide_eq_false h1; simp only [Int.ofNat_eq_natCast] at h1; omega
  refine VSt.go tb_ok false [] 200 rfl AllP.n ?_
  refine VSt.loopT (ti := 3) l.length [0] (fun _ => []) (fun _ => []) (fun k => RegTo l k) rfl rfl u0_nil trivial (RegTo.zero l) (fun k hk hp => ?_)
  refine VSt.go tb_ok false [] 200 rfl AllP.n ?_
  refine VSt.cond rfl (fun h => ?_) (fun h => ?_)
  · have hk := nlt h
    have hzk := hz.each k hk
    refine VSt.go tb_ok false [] 200 rfl (AllP.c (by assumption) (AllP.c rfl AllP.n)) ?_
    refine VSt.pcD rfl rfl rfl rfl rfl rfl rfl rfl ((rCkO_ok (o := nth l k) hzk)) ?_
    refine VSt.go tb_ok false [] 200 rfl AllP.n ?_
    refine VSt.splitD 20 rfl (fun a1 => ?_) (fun a1 => ?_)
    · refine VSt.go tb_ok false [] 200 rfl AllP.n ?_
      refine EndsP.mk rfl rfl rfl ?_
      rw [ckReg_badO hk a1]; rfl
    have hO : OkO (nth l k) := ok_of a1
    have hkn := (wth_iff.1 hO.known).2
    refine VSt.go tb_ok false [] 200 rfl AllP.n ?_
    refine VSt.splitD 23 rfl (fun a2 => ?x1) (fun a2 => ?x2)
    case' x1 =>
      have h0 := n0 a2
      refine VSt.go tb_ok false [27] 200 rfl (AllP.c (by unfold inR; (try simp only [Int.ofNat_eq_natCast]); omega) AllP.n) ?_
      refine VSt.putD 26 (nv (k - 1)) rfl (pred_iv h0) ?_
      refine VSt.go tb_ok false [] 200 rfl (AllP.c (by omega) (AllP.c rfl (AllP.c (by assumption) (AllP.c rfl AllP.n)))) ?_
      refine VSt.cond rfl (fun a3 => ?_) (fun a3 => ?_)
      · have a3 : (nth l k).source ≤ (nth l (k - 1)).source := of_decide_eq_true a3
        refine VSt.go tb_ok false [] 200 rfl AllP.n ?_
        refine EndsP.mk rfl rfl rfl ?_
        rw [ckReg_bad fun h => by have := h.rise k h0 hk; omega]; rfl
      have hri : 0 < k → (nth l (k - 1)).source < (nth l k).source := fun _ => by have a3 : ¬ (nth l k).source ≤ (nth l (k - 1)).source := of_decide_eq_false a3; omega
    case' x2 =>
      have hri : 0 < k → (nth l (k - 1)).source < (nth l k).source := fun h => absurd (n0' a2) (by omega)
    all_goals
      refine VSt.go tb_ok false [] 200 rfl AllP.n ?_
      refine VSt.loopT (ti := 4) k [0, 3] (fun _ => []) (fun _ => []) (fun j => ∀ i, i < j → hit (nth l i) (nth l k) = false) rfl rfl u0_nil trivial none0 (fun j hj hq => ?_)
      refine VSt.go tb_ok false [] 200 rfl AllP.n ?_
      refine VSt.cond rfl (fun h => ?_) (fun h => ?_)
      · have hj := nlt h
        have hjl : j < l.length := by omega
        have hjn := (wth_iff.1 (hp.ok j hj).known).2
        have bad : hit (nth l j) (nth l k) = true → ckReg l = 61 := fun h => ckReg_bad fun hR => by rw [hR.apart k hk j hj] at h; cases h
        have e1 := end_lt (a := nth l j) (b := nth l k) hkn
        have e2 := end_lt (a := nth l k) (b := nth l j) hjn
        have he : hit (nth l j) (nth l k) = ((nth l j).register == (nth l k).register && (meetB (nth l j) (nth l k) && (decide ((nth l k).known < endI (nth l j)) && decide ((nth l j).known < endI (nth l k))))) := by
          unfold hit everB; rw [e1, e2]
        refine VSt.go tb_ok false [] 200 rfl (AllP.c (by assumption) (AllP.c rfl (AllP.c (by assumption) (AllP.c rfl AllP.n)))) ?_
        refine VSt.splitD 54 rfl (fun b1 => ?_) (fun b1 => ?_)
        · refine VSt.go tb_ok false [] 200 rfl (AllP.c (by assumption) (AllP.c rfl (AllP.c (by assumption) (AllP.c rfl AllP.n)))) ?_
          refine VSt.pcD rfl rfl rfl rfl rfl rfl rfl rfl ((share_ok (nth l j) (nth l k))) ?_
          refine VSt.go tb_ok false [] 200 rfl AllP.n ?_
          refine VSt.splitD 65 rfl (fun b2 => ?_) (fun b2 => ?_)
          · refine VSt.go tb_ok false [] 200 rfl (AllP.c (by assumption) (AllP.c rfl (AllP.c (by assumption) (AllP.c rfl AllP.n)))) ?_
            refine VSt.pcD rfl rfl rfl rfl rfl rfl rfl rfl ((end_ok (nth l k))) ?_
            refine VSt.go tb_ok false [] 200 rfl AllP.n ?_
            refine VSt.splitD 78 rfl (fun b3 => ?_) (fun b3 => ?_)
            · refine VSt.go tb_ok false [] 200 rfl (AllP.c (by assumption) (AllP.c rfl (AllP.c (by assumption) (AllP.c rfl AllP.n)))) ?_
              refine VSt.pcD rfl rfl rfl rfl rfl rfl rfl rfl ((end_ok (nth l j))) ?_
              refine VSt.go tb_ok false [] 200 rfl AllP.n ?_
              refine VSt.cond rfl (fun b4 => ?_) (fun b4 => ?_)
              · refine VSt.go tb_ok false [] 200 rfl AllP.n ?_
                refine EndsP.mk rfl rfl rfl ?_
                rw [bad (by rw [he, b1, b2, show decide ((nth l j).known < endI (nth l k)) = true from b3, show decide ((nth l k).known < endI (nth l j)) = true from b4]; rfl)]; rfl
              · refine VSt.go tb_ok false [] 200 rfl (AllP.c (by unfold inR; (try simp only [Int.ofNat_eq_natCast]); omega) AllP.n) ?_
                exact ⟨hj, by (refine Vw.drop (by repeat (first | exact wf_nil | refine wf_back rfl rfl rfl ?_ | refine wf_cons rfl (by assumption) (ren_only _ (by assumption)) ?_))), snoc_all hq (by rw [he, b1, b2, show decide ((nth l k).known < endI (nth l j)) = false from b4]; rfl)⟩
            · refine VSt.go tb_ok false [] 200 rfl (AllP.c (by unfold inR; (try simp only [Int.ofNat_eq_natCast]); omega) AllP.n) ?_
              exact ⟨hj, by (refine Vw.drop (by repeat (first | exact wf_nil | refine wf_back rfl rfl rfl ?_ | refine wf_cons rfl (by assumption) (ren_only _ (by assumption)) ?_))), snoc_all hq (by rw [he, b1, b2, show decide ((nth l j).known < endI (nth l k)) = false from b3]; simp)⟩
          · refine VSt.go tb_ok false [] 200 rfl (AllP.c (by unfold inR; (try simp only [Int.ofNat_eq_natCast]); omega) AllP.n) ?_
            exact ⟨hj, by (refine Vw.drop (by repeat (first | exact wf_nil | refine wf_back rfl rfl rfl ?_ | refine wf_cons rfl (by assumption) (ren_only _ (by assumption)) ?_))), snoc_all hq (by rw [he, b1, b2]; rfl)⟩
        · refine VSt.go tb_ok false [] 200 rfl (AllP.c (by unfold inR; (try simp only [Int.ofNat_eq_natCast]); omega) AllP.n) ?_
          exact ⟨hj, by (refine Vw.drop (by repeat (first | exact wf_nil | refine wf_back rfl rfl rfl ?_ | refine wf_cons rfl (by assumption) (ren_only _ (by assumption)) ?_))), snoc_all hq (by rw [he, b1]; rfl)⟩
      · have h : j = k := by have := nge h; omega
        subst h
        refine VSt.go tb_ok false [] 200 rfl (AllP.c (by unfold inR; (try simp only [Int.ofNat_eq_natCast]); omega) AllP.n) ?_
        exact ⟨hk, by (refine Vw.drop (by repeat (first | exact wf_nil | refine wf_back rfl rfl rfl ?_ | refine wf_cons rfl (by assumption) (ren_only _ (by assumption)) ?_))), hp.succ hO hri hq⟩
  · have h : k = l.length := by have := nge h; omega
    subst h
    refine VSt.go tb_ok false [] 200 rfl (by repeat (first | exact AllP.n | refine AllP.c (by first | assumption | rfl | omega | exact Nat.le_refl _ | (show 0 < _; omega) | (show 1 < _; omega) | (show 2 < _; omega) | (show 3 < _; omega) | (intro _ _; rfl) | (intro q hq; match q, hq with | 0, _ => rfl) | (unfold inR; (try simp only [Int.ofNat_eq_natCast]); omega)) ?_)) ?_
    refine EndsP.mk rfl rfl rfl ?_
    rw [ckReg_good hp hl]; rfl
end Go.Proofs.YtbieflpgjmgaiaaGreat
/- Walks: what is looked at; the openings that count. -/
set_option maxRecDepth 100000
namespace Go.Proofs.YtbieflpgjmgaiaaGreat
variable {r : Rm}
def eKn (b : Bool) (l : List Opn) (d : Int) : List PV := [eOpns b l, .int .i64 d, .nilm]
def knP (b : Bool) (l : List Opn) (d : Int) : PV := .fp (eKn b l d) 0
end Go.Proofs.YtbieflpgjmgaiaaGreat
/- Walks: the iterator of the openings that count, for any loop's body. -/
set_option maxRecDepth 100000
namespace Go.Proofs.YtbieflpgjmgaiaaGreat
variable {r : Rm}
end Go.Proofs.YtbieflpgjmgaiaaGreat
/- Walks: the opening with a source; those against one. -/
set_option maxRecDepth 100000
namespace Go.Proofs.YtbieflpgjmgaiaaGreat
variable {r : Rm}
theorem AImp.agg {cs ds : List AV} (h : AImps cs ds) : AImp (.agg cs) (.agg ds) := fun E S Z j v hv => by
  cases hv with
  | agg hs hv => exact .agg hs (h.vrs hv)
theorem AImp.tup {cs ds : List AV} (h : AImps cs ds) : AImp (.tup cs) (.tup ds) := fun E S Z j v hv => by
  cases hv with
  | tup hv => exact .tup (h.vrs hv)
def nb : Nat → Bool := fun _ => false
theorem cnt_nb (l : List Opn) (d : Int) : cnt l d nb = l.filter fun o => counts o d := by
  unfold cnt nb
  congr 1; funext o; simp
def fL (l : List Int) : Nat → List PV := fun q => [.int .i64 (l.getD q 0)]
theorem app_int (l : List Int) (y : Int) (q : Nat) (hq : q < l.length + 1) : (bif Nat.blt q l.length then fL l q else ([PV.int .i64 y].drop ((q - l.length) * 1)).take 1) = fL (l ++ [y]) q := by
  unfold fL
  by_cases e : q < l.length
  · rw [blt_t e]
    simp only [cond_true, List.getD_eq_getElem?_getD]
    rw [List.getElem?_append_left e]
  · have : q = l.length := by omega
    subst this
    rw [blt_f e, Nat.sub_self]
    simp
def preL {α : Type} (l : List Opn) (p : Opn → Bool) (f : Opn → α) (k : Nat) : List α := ((l.take k).filter p).map f
theorem take_nth {l : List Opn} {k : Nat} (h : k < l.length) : l.take (k + 1) = l.take k ++ [nth l k] := by
  unfold nth
  rw [List.take_add_one, List.getElem?_eq_getElem h, getD_get h]; rfl
theorem preL_t {α : Type} {l : List Opn} {p : Opn → Bool} {f : Opn → α} {k : Nat} (h : k < l.length) (hp : p (nth l k) = true) : preL l p f (k + 1) = preL l p f k ++ [f (nth l k)] := by
  unfold preL
  rw [take_nth h, List.filter_append, List.map_append]
  simp [hp]
theorem preL_f {α : Type} {l : List Opn} {p : Opn → Bool} {f : Opn → α} {k : Nat} (h : k < l.length) (hp : p (nth l k) = false) : preL l p f (k + 1) = preL l p f k := by
  unfold preL
  rw [take_nth h, List.filter_append, List.map_append]
  simp [hp]
theorem preL_all {α : Type} {l : List Opn} {p : Opn → Bool} {f : Opn → α} : preL l p f l.length = (l.filter p).map f := by
  unfold preL; rw [List.take_length]
theorem preL_len {α : Type} {l : List Opn} {p : Opn → Bool} {f : Opn → α} {k : Nat} : (preL l p f k).length ≤ l.length := by
  unfold preL
  rw [List.length_map]
  exact Nat.le_trans (List.length_filter_le _ _) (List.length_take_le' ..)
theorem acc_eInts {j : Nat} {l : List Int} {n : Nat} (hn : n = l.length) : (AV.p (.lst 3 (true && Nat.beq n 0) n (fL l))) = .p (eInts l.isEmpty l) := by
  subst hn
  cases l <;> rfl
end Go.Proofs.YtbieflpgjmgaiaaGreat
/- Walks: the openings that have a day, and a paper. -/
set_option maxRecDepth 100000
namespace Go.Proofs.YtbieflpgjmgaiaaGreat
variable {r : Rm}
def eL (l : List Int) : PV := eInts l.isEmpty l
end Go.Proofs.YtbieflpgjmgaiaaGreat
/- Walks: the pairs that contradict each other. -/
set_option maxRecDepth 100000
namespace Go.Proofs.YtbieflpgjmgaiaaGreat
variable {r : Rm}
theorem flat_le {α β : Type} {f : α → List β} {m : Nat} : ∀ {l : List α}, (∀ a, a ∈ l → (f a).length ≤ m) → (l.flatMap f).length ≤ l.length * m
  | [], _ => by simp
  | a :: l, h => by
    rw [List.flatMap_cons, List.length_append, List.length_cons, Nat.succ_mul]
    have h1 := h a (List.mem_cons_self ..)
    have h2 := flat_le (l := l) fun b hb => h b (List.mem_cons_of_mem _ hb)
    omega
end Go.Proofs.YtbieflpgjmgaiaaGreat
