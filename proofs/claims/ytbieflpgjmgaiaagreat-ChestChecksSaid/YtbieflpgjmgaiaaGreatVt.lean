/- The program's ChestChecks returns true for all openings, valid or not, without an exception and without changing its arguments: a part of the proof. -/
import Derived.Test.YtbieflpgjmgaiaaGreatVs
import Derived.Test.YtbieflpgjmgaiaaGreatVq
import Derived.Test.YtbieflpgjmgaiaaGreatVe
set_option linter.all false
/- Walks: the reference's matching. -/
set_option maxRecDepth 100000
namespace Go.Proofs.YtbieflpgjmgaiaaGreat
open Kuhn
variable {r : Rm}
end Go.Proofs.YtbieflpgjmgaiaaGreat
/- Walks: the reference's openings without some; whether some may be false. -/
set_option maxRecDepth 100000
namespace Go.Proofs.YtbieflpgjmgaiaaGreat
open Kuhn
variable {r : Rm}
def lessI (c : List Opn) (s : Int) : List Opn := (c.filter fun o => !(o.source == s)).map cpO
theorem cpO_ok {o : Opn} (h : OkO o) : OkO (cpO o) := ⟨h.source, h.register, h.day, h.lawful, h.inn, h.out, h.com, h.known, h.until_⟩
theorem Vc.less {c : List Opn} (h : Vc c) (s : Int) : Vc (lessI c s) := by
  refine ⟨fun o ho => ?_, ?_⟩
  · obtain ⟨x, hx, rfl⟩ := List.mem_map.1 ho
    exact cpO_ok (h.ok x (List.mem_filter.1 hx).1)
  · unfold lessI
    rw [List.pairwise_map]
    exact h.rise.filter _
theorem lessI_len {c : List Opn} {s : Int} : (lessI c s).length ≤ c.length := by
  unfold lessI
  rw [List.length_map]
  exact List.length_filter_le _ _
theorem Szs.of {c : List Opn} (hn : c.length < 1000000) (h : ∀ o, o ∈ c → Sz o) : Szs c := ⟨hn, fun k hk => h _ (getD_mem hk)⟩
theorem Szs.less {c : List Opn} (h : Szs c) (s : Int) : Szs (lessI c s) := Szs.of (Nat.lt_of_le_of_lt lessI_len h.len) fun o ho => by
  obtain ⟨x, hx, rfl⟩ := List.mem_map.1 ho
  exact cpO_sz (h.mem (List.mem_filter.1 hx).1)
set_option maxHeartbeats 4000000 in
theorem rless_ok {b : Bool} {c : List Opn} {s : Int} (hz : Szs c) : VP (sE r) 81 [.p (eOpns b c), iv s] (.p (eLO (lessI c s))) := by
  have hn := hz.len
  refine VP.of (fn := Tryz.f81) tb_ok (wk_ok rfl) (by kernel_rfl) rfl rfl rfl ?_
  refine VSt.go tb_ok false [] 200 rfl AllP.n ?_
  refine VSt.viewC (Vw.adopt 0 9 (fO []) 45 rfl) ?_
  refine VSt.loopT (ti := 6) c.length [0, 1] (fun k => [(5, .acc true 0 9 (preL c (fun o => !(o.source == s)) cpO k).length)]) (fun k => [(0, .acc (preL c (fun o => !(o.source == s)) cpO k).length 9 (fO (preL c (fun o => !(o.source == s)) cpO k)) 45)]) (fun _ => True) rfl rfl (u0_cons rfl AImp.nilAcc u0_nil) (LImp.refl _) trivial (fun k hk _ => ?_)
  have hlen := preL_len (l := c) (p := fun o => !(o.source == s)) (f := cpO) (k := k)
  refine VSt.go tb_ok false [] 200 rfl AllP.n ?_
  refine VSt.cond rfl (fun h => ?_) (fun h => ?_)
  · have h := nlt h
    refine VSt.go tb_ok false [] 200 rfl (AllP.c (by assumption) (AllP.c rfl AllP.n)) ?_
    refine VSt.cond rfl (fun h2 => ?_) (fun h2 => ?_)
    · have e := preL_t (p := fun o => !(o.source == s)) (f := cpO) h h2
      have hN := congrArg List.length e
      rw [List.length_append, List.length_singleton] at hN
      refine VSt.go tb_ok false [] 200 rfl (AllP.c (by assumption) (AllP.c rfl AllP.n)) ?_
      refine VSt.pc rfl rfl rfl rfl rfl rfl rfl rfl ((copyOpn_ok (o := nth c k) (hz.each k h))) ?_
      refine VSt.go tb_ok false [] 200 rfl (AllP.c (by omega) (AllP.c (by omega) (AllP.c (fun q hq => match q, hq with | 0, _ => rfl) (AllP.c rfl (AllP.c rfl (AllP.c rfl (AllP.c (by unfold inR; (try simp only [Int.ofNat_eq_natCast]); omega) AllP.n))))))) ?_
      refine ⟨h, ?_, trivial⟩
      exact Wk.vw (ps := [(0, 1)]) ⟨rfl, rfl, (by repeat (first | exact wf_nil | refine wf_back rfl rfl rfl ?_ | refine wf_imp rfl rfl (AImp.acc hN.symm (fun _ => rfl)) ?_)), _, rfl, ⟨rfl, BImp.acc hN.symm (fun x hx => by rw [e]; exact app_opn _ _ _ rfl x hx), trivial⟩⟩
    · refine VSt.go tb_ok false [] 200 rfl (AllP.c (by unfold inR; (try simp only [Int.ofNat_eq_natCast]); omega) AllP.n) ?_
      refine ⟨h, ?_, trivial⟩
      dsimp only
      rw [preL_f (p := fun o => !(o.source == s)) (f := cpO) h h2]
      refine Wk.vw (ps := [(0, 0)]) ⟨rfl, rfl, (by repeat (first | exact wf_nil | refine wf_back rfl rfl rfl ?_)), _, rfl, ((LImp.refl _))⟩
  · have h : k = c.length := by have := nge h; omega
    subst h
    rw [preL_all]
    refine VSt.go tb_ok false [28] 200 rfl AllP.n ?_
    refine VSt.viewO (Vw.kp [5] [(0, 0)] rfl) ?_
    refine VSt.viewO (Vw.freezeA 0 rfl rfl ⟨Nat.le_refl _, rfl⟩) ?_
    refine VSt.go tb_ok false [] 200 rfl AllP.n ?_
    refine EndsP.mk rfl rfl rfl ?_
    exact acc_eLO rfl
end Go.Proofs.YtbieflpgjmgaiaaGreat
/- Walks: the reference's answers. -/
set_option maxRecDepth 100000
namespace Go.Proofs.YtbieflpgjmgaiaaGreat
open Kuhn
variable {r : Rm}
end Go.Proofs.YtbieflpgjmgaiaaGreat
/- Walks: the reference's True, Inside, Sealed: the same answers. -/
set_option maxRecDepth 100000
namespace Go.Proofs.YtbieflpgjmgaiaaGreat
open Kuhn
variable {r : Rm}
end Go.Proofs.YtbieflpgjmgaiaaGreat
/- Walks: the law of what is true, and lay in the chest, and was sealed. -/
set_option maxRecDepth 100000
namespace Go.Proofs.YtbieflpgjmgaiaaGreat
open Kuhn
variable {r : Rm}
theorem VP.hook {E : Env} {f : FuncId} (hk : hookL E f [] = true) : VP E f [] (bv true) :=
  ⟨rfl, fun S Z j vs hS hv hl => by
    cases hv
    exact ⟨1, .bool true, S, fun m hm => by
      obtain ⟨k, rfl, _⟩ := le_succ_ex hm
      show bf (hookL E f []) _ _ = _
      rw [hk]; rfl, bv true, [], Z, j, hS, .p (.bool true), Ex.refl _ _ _, hl, Stay.refl _ _, rfl, rfl⟩⟩
end Go.Proofs.YtbieflpgjmgaiaaGreat
/- Openings as arguments. -/
set_option maxRecDepth 100000
namespace Go.Proofs.YtbieflpgjmgaiaaGreat
noncomputable abbrev sE0 : Env := sE (.nil, true)
theorem arg_ints {n : Nat} {q : List PV} (h : Sh sE0 (n + 2) 32 q) : ∃ b l, PImps q [eInts b l] ∧ (b = true → l = []) ∧ l.length < 9223372036854775808 := by
  obtain ⟨nb, m, f, rfl, h1, h2, h3⟩ := Sh.slice (e := 3) (by kernel_rfl) h
  obtain ⟨l, rfl, h4⟩ := list_of (0 : Int) (P := fun k x => f k = [.int .i64 x]) fun k hk => let ⟨x, h, _⟩ := Sh.int (k := .i64) (by kernel_rfl) (h3 k hk); ⟨x, h⟩
  exact ⟨nb, l, ⟨PImp.lst fun k hk => by rw [h4 k hk]; exact ⟨PImp.refl _, trivial⟩, trivial⟩, fun h => List.length_eq_zero_iff.1 (h1 h), h2⟩
theorem arg_int {n : Nat} {q : List PV} (h : Sh sE0 (n + 1) 3 q) : ∃ x, q = [.int .i64 x] := let ⟨x, h, _⟩ := Sh.int (k := .i64) (by kernel_rfl) h; ⟨x, h⟩
theorem arg_opn {n : Nat} {q : List PV} (h : Sh sE0 (n + 3) 45 q) : ∃ o : Opn, PImps q (eOpn o) ∧ SzW o := by
  obtain ⟨h1, h2⟩ := Sh.struct (sz := 9) (l := [(3, 0), (3, 1), (3, 2), (3, 3), (3, 4), (32, 5), (32, 6), (3, 7), (3, 8)]) (by kernel_rfl) h
  match q, h1 with
  | [a, b, c, d, e, f, g, i, j], _ =>
    obtain ⟨x0, k0⟩ := arg_int (h2 (3, 0) (by simp) 1 (by kernel_rfl))
    obtain ⟨x1, k1⟩ := arg_int (h2 (3, 1) (by simp) 1 (by kernel_rfl))
    obtain ⟨x2, k2⟩ := arg_int (h2 (3, 2) (by simp) 1 (by kernel_rfl))
    obtain ⟨x3, k3⟩ := arg_int (h2 (3, 3) (by simp) 1 (by kernel_rfl))
    obtain ⟨x4, k4⟩ := arg_int (h2 (3, 4) (by simp) 1 (by kernel_rfl))
    obtain ⟨ib, il, k5, _, m5⟩ := arg_ints (h2 (32, 5) (by simp) 1 (by kernel_rfl))
    obtain ⟨ob, ol, k6, _, m6⟩ := arg_ints (h2 (32, 6) (by simp) 1 (by kernel_rfl))
    obtain ⟨x7, k7⟩ := arg_int (h2 (3, 7) (by simp) 1 (by kernel_rfl))
    obtain ⟨x8, k8⟩ := arg_int (h2 (3, 8) (by simp) 1 (by kernel_rfl))
    have k0 : [a] = _ := k0
    have k1 : [b] = _ := k1
    have k2 : [c] = _ := k2
    have k3 : [d] = _ := k3
    have k4 : [e] = _ := k4
    have k5 : PImps [f] _ := k5
    have k6 : PImps [g] _ := k6
    have k7 : [i] = _ := k7
    have k8 : [j] = _ := k8
    cases k0; cases k1; cases k2; cases k3; cases k4; cases k7; cases k8
    exact ⟨{ source := x0, register := x1, day := x2, through := x3, lawful := x4, inn := il, inB := ib, out := ol, outB := ob, known := x7, until_ := x8 },
      ⟨PImp.refl _, PImp.refl _, PImp.refl _, PImp.refl _, PImp.refl _, k5.1, k6.1, PImp.refl _, PImp.refl _, trivial⟩, ⟨m5, m6⟩⟩
theorem arg_opns {n : Nat} {q : List PV} (h : Sh sE0 (n + 4) 22 q) : ∃ (b : Bool) (l : List Opn), PImps q [eOpns b l] ∧ SzsW l := by
  obtain ⟨nb, m, f, rfl, h1, h2, h3⟩ := Sh.slice (e := 45) (by kernel_rfl) h
  obtain ⟨l, rfl, h4⟩ := list_of (default : Opn) (P := fun k o => PImps (f k) (eOpn o) ∧ SzW o) fun k hk => arg_opn (h3 k hk)
  exact ⟨nb, l, ⟨PImp.lst fun k hk => (h4 k hk).1, trivial⟩, ⟨h2, fun k hk => (h4 k hk).2⟩⟩
theorem Sh.array {E : Env} {n : Nat} {t : TypeId} {qs : List PV} {sz w m : Nat} {e : TypeId} (hi : (E.ti.get t).map (fun i => (i.size, i.desc)) = some (sz, .array m e)) (he : (E.ti.get e).map (·.size) = some w) (h : Sh E (n + 1) t qs) : qs.length = sz ∧ ∀ k, k < m → Sh E n e ((qs.drop (k * w)).take w) := by
  unfold Sh at h
  cases hg : E.ti.get t with
  | none => rw [hg] at hi; cases hi
  | some i =>
    rw [hg] at hi h
    have hi : (i.size, i.desc) = (sz, .array m e) := Option.some.inj hi
    simp only [Prod.mk.injEq] at hi
    obtain ⟨h1, h2⟩ := hi
    simp only [h2] at h
    obtain ⟨h3, g, h4, h5⟩ := h
    rw [h4] at he
    have he : g.size = w := Option.some.inj he
    subst he
    exact ⟨h3.trans h1, h5⟩
end Go.Proofs.YtbieflpgjmgaiaaGreat
/- Openings that numbers determine. -/
namespace Go.Proofs.YtbieflpgjmgaiaaGreat
def md (n m : Int) : Int := (n.tmod m + m).tmod m
def mdN (n m : Int) : Nat := (md n m).toNat
structure Raw where
  a0 : Int
  a1 : Int
  a2 : Int
  a3 : Int
  a4 : Int
  a5 : Int
  a6 : Int
  a7 : Int
instance : Inhabited Raw := ⟨⟨0, 0, 0, 0, 0, 0, 0, 0⟩⟩
def bitB (n : Int) (p : Nat) : Bool := Int.ofNat (mdN n 16 >>> p &&& 1) == 1
def inM (r : Raw) : Nat → List Int
  | 0 => []
  | p + 1 => bif bitB r.a4 p then inM r p ++ [5 + Int.ofNat p] else inM r p
def ouM (r : Raw) : Nat → List Int
  | 0 => []
  | p + 1 => bif !bitB r.a4 p && bitB r.a5 p then ouM r p ++ [5 + Int.ofNat p] else ouM r p
structure Ris (l : List Int) (p : Nat) : Prop where
  len : l.length ≤ p
  bd : ∀ x ∈ l, 5 ≤ x ∧ x < 5 + Int.ofNat p
  pw : l.Pairwise fun a b => a < b
theorem Ris.zero : Ris [] 0 := ⟨Nat.le_refl _, fun x h => (by cases h), .nil⟩
theorem Ris.skip {l : List Int} {p : Nat} (h : Ris l p) : Ris l (p + 1) := ⟨Nat.le_succ_of_le h.len, fun x hx => by have := h.bd x hx; simp only [Int.ofNat_eq_natCast] at this ⊢; omega, h.pw⟩
theorem Ris.add {l : List Int} {p : Nat} (h : Ris l p) : Ris (l ++ [5 + Int.ofNat p]) (p + 1) := by
  refine ⟨by rw [List.length_append]; exact Nat.succ_le_succ h.len, fun x hx => ?_, ?_⟩
  · rcases List.mem_append.1 hx with hx | hx
    · have := h.bd x hx; simp only [Int.ofNat_eq_natCast] at this ⊢; omega
    · have := List.mem_singleton.1 hx; simp only [Int.ofNat_eq_natCast] at this ⊢; omega
  · rw [List.pairwise_append]
    exact ⟨h.pw, List.pairwise_singleton _ _, fun a ha b hb => by rw [List.mem_singleton.1 hb]; exact (h.bd a ha).2⟩
def mkO (i : Nat) (a b : Int) (r : Raw) : Opn :=
  { source := 1 + Int.ofNat i, register := 1 + md r.a0 2, day := (if md r.a0 2 = 0 then a else b) + md r.a1 12, through := (if md r.a0 2 = 0 then a else b) + md r.a1 12 + md r.a2 20, lawful := md r.a3 3,
    inn := inM r 4, inB := (inM r 4).isEmpty, out := ouM r 4, outB := (ouM r 4).isEmpty, known := md r.a6 10, until_ := if md r.a7 4 = 0 then md r.a6 10 + 1 + md (r.a7.tdiv 4) 6 else 0 }
structure Mk where
  out : List Opn
  a : Int
  b : Int
def mkS (m : Mk) (i : Nat) (r : Raw) : Mk := ⟨m.out ++ [mkO i m.a m.b r], if md r.a0 2 = 0 then (mkO i m.a m.b r).through + 1 else m.a, if md r.a0 2 = 0 then m.b else (mkO i m.a m.b r).through + 1⟩
def mkA (l : List Raw) : Nat → Mk
  | 0 => ⟨[], 0, 0⟩
  | k + 1 => mkS (mkA l k) k (l.getD k default)
def made (l : List Raw) : List Opn := (mkA l (min l.length 12)).out
structure MkO (m : Mk) (k : Nat) : Prop where
  len : m.out.length = k
  ab : 0 ≤ m.a ∧ m.a ≤ 32 * Int.ofNat k ∧ 0 ≤ m.b ∧ m.b ≤ 32 * Int.ofNat k
  ok : ∀ i, i < k → OkO (nth m.out i)
  src : ∀ i, i < k → (nth m.out i).source = 1 + Int.ofNat i
  one : ∀ i, i < k → ((nth m.out i).register = 1 ∧ (nth m.out i).through < m.a) ∨ ((nth m.out i).register = 2 ∧ (nth m.out i).through < m.b)
  apart : ∀ i, i < k → ∀ j, j < i → hit (nth m.out j) (nth m.out i) = false
end Go.Proofs.YtbieflpgjmgaiaaGreat
/- Walks: openings that numbers determine. -/
set_option maxRecDepth 100000
namespace Go.Proofs.YtbieflpgjmgaiaaGreat
variable {r : Rm}
end Go.Proofs.YtbieflpgjmgaiaaGreat
/- Walks: the program's Clashes and Fewest. -/
set_option maxRecDepth 100000
namespace Go.Proofs.YtbieflpgjmgaiaaGreat
open Kuhn
variable {r : Rm}
end Go.Proofs.YtbieflpgjmgaiaaGreat
/- Numbers that determine openings, as arguments. -/
set_option maxRecDepth 100000
namespace Go.Proofs.YtbieflpgjmgaiaaGreat
theorem Shs.two {E : Env} {n : Nat} {a b : TypeId} : ∀ {qs : List (List PV)}, Shs E n [a, b] qs → ∃ q1 q2, qs = [q1, q2] ∧ Sh E n a q1 ∧ Sh E n b q2
  | [], h => h.elim
  | [_], h => h.2.elim
  | [q1, q2], h => ⟨q1, q2, rfl, h.1, h.2.1⟩
  | _ :: _ :: _ :: _, h => h.2.2.elim
theorem PImps.one {q : List PV} {p0 : PV} : PImps q [p0] → ∃ p, q = [p] ∧ PImp p p0 := match q with
  | [] => fun h => h.elim
  | [p] => fun h => ⟨p, rfl, h.1⟩
  | _ :: _ :: _ => fun h => h.2.elim
end Go.Proofs.YtbieflpgjmgaiaaGreat
