/- The program's ChestFewest returns true for all openings, days, sources and pairs, valid or not, without an exception and without changing its arguments: a part of the proof. -/
import Derived.Test.YtbieflpgjmgaiaaGreatVr
set_option linter.all false
/- Walks: the reference's matching. -/
set_option maxRecDepth 100000
namespace Go.Proofs.YtbieflpgjmgaiaaGreat
open Kuhn
variable {r : Rm}
def adjI (c : List Opn) (i : Nat) : List Nat := (List.range c.length).filter fun k => isP (nth c i) (nth c k)
def remI (c : List Opn) (i k : Nat) : List Nat := ((List.range c.length).drop k).filter fun q => isP (nth c i) (nth c q)
theorem remI_t {c : List Opn} {i k : Nat} (hk : k < c.length) (h : isP (nth c i) (nth c k) = true) : remI c i k = k :: remI c i (k + 1) := by
  unfold remI
  rw [drop_cons (by rw [List.length_range]; exact hk), getD_get (by rw [List.length_range]; exact hk), List.getElem_range, List.filter_cons_of_pos (p := fun q => isP (nth c i) (nth c q)) h]
theorem remI_f {c : List Opn} {i k : Nat} (hk : k < c.length) (h : isP (nth c i) (nth c k) = false) : remI c i k = remI c i (k + 1) := by
  unfold remI
  rw [drop_cons (by rw [List.length_range]; exact hk), getD_get (by rw [List.length_range]; exact hk), List.getElem_range, List.filter_cons_of_neg (p := fun q => isP (nth c i) (nth c q)) (by rw [h]; decide)]
theorem adjI_lt {c : List Opn} {i x : Nat} (h : x ∈ adjI c i) : x < c.length := List.mem_range.1 (List.mem_filter.1 h).1
theorem runM_skip {adj : Nat → List Nat} {k : Nat} {p : Nat → Bool} (h : ∀ f, p f = false → adj f = []) : ∀ (l : List Nat) (μ : MS Nat), l.foldl (stepM adj (k + 1)) μ = (l.filter p).foldl (stepM adj (k + 1)) μ
  | [], μ => rfl
  | f :: l, μ => by
    cases hp : p f with
    | true => rw [List.filter_cons_of_pos hp]; exact runM_skip h l _
    | false =>
      rw [List.filter_cons_of_neg (by rw [hp]; decide), List.foldl_cons]
      have e : stepM adj (k + 1) μ f = μ := by
        unfold stepM tryK
        rw [h f hp]; rfl
      rw [e]; exact runM_skip h l μ
def matchI (c : List Opn) : MS Nat := runM (adjI c) 61 (List.range c.length)
theorem nth_inj {c : List Opn} (h : Vc c) {i j : Nat} (hi : i < c.length) (hj : j < c.length) (e : src (nth c i) = src (nth c j)) : i = j := by
  have key : ∀ i j, i < j → j < c.length → src (nth c i) ≠ src (nth c j) := fun i j hij hj e => by
    have h1 := List.pairwise_iff_getElem.1 h.rise i j (by omega) hj hij
    have e1 : (nth c i).source = (nth c j).source := (h.ok (nth c i) (getD_mem (by omega))).src.trans ((congrArg Int.ofNat e).trans (h.ok (nth c j) (getD_mem hj)).src.symm)
    have e2 : (nth c i).source = c[i].source := congrArg _ (getD_get (by omega))
    have e3 : (nth c j).source = c[j].source := congrArg _ (getD_get hj)
    omega
  by_cases h1 : i < j
  · exact absurd e (key i j h1 hj)
  · by_cases h2 : j < i
    · exact absurd e.symm (key j i h2 hi)
    · omega
theorem low_i {c : List Opn} (h : Vc c) (hn : c.length ≤ 60) : Low (edg c) (matchI c).n := by
  have hAdj : ∀ p x, x ∈ adjI c p → x ∈ (List.range c.length).filter fun k => (nth c k).register == 2 := fun p x hx => by
    obtain ⟨h1, h2⟩ := List.mem_filter.1 hx
    exact List.mem_filter.2 ⟨h1, by simpa using (isP_regs h2).2.1⟩
  have e : matchI c = runM (adjI c) 61 ((List.range c.length).filter fun k => (nth c k).register == 1) := by
    unfold matchI runM
    refine runM_skip (k := 60) (fun f hf => ?_) _ _
    unfold adjI
    rw [List.filter_eq_nil_iff]
    intro x _ hx
    have := (isP_regs hx).1
    rw [this] at hf; cases hf
  have hI := runM_ok (k := 61) (F := (List.range c.length).filter fun k => (nth c k).register == 1) hAdj (List.nodup_range.filter _) (by
    have := List.length_filter_le (fun k => (nth c k).register == 2) (List.range c.length)
    rw [List.length_range] at this
    omega) (List.nodup_range.filter fun k => (nth c k).register == 1)
  rw [← e] at hI
  have edge : ∀ f x, edg c f x → ∃ i, i < c.length ∧ ∃ k, k < c.length ∧ (nth c i).register = 1 ∧ k ∈ adjI c i ∧ src (nth c i) = f ∧ src (nth c k) = x := fun f x he => by
    obtain ⟨a, ha, b, hb, h1, rfl, rfl⟩ := edg_iff.1 he
    obtain ⟨i, hi, rfl⟩ := mem_getD (d := default) ha
    obtain ⟨k, hk, rfl⟩ := mem_getD (d := default) hb
    exact ⟨i, hi, k, hk, (isP_regs h1).1, List.mem_filter.2 ⟨List.mem_range.2 hk, h1⟩, rfl, rfl⟩
  constructor
  · obtain ⟨C, c1, c2, _⟩ := some_cover hAdj hI
    refine ⟨C.map fun i => src (nth c i), fun f x he => ?_, by rw [List.length_map]; exact c2⟩
    obtain ⟨i, hi, k, hk, hr, ha, rfl, rfl⟩ := edge f x he
    rcases c1 i (List.mem_filter.2 ⟨List.mem_range.2 hi, by simpa using hr⟩) k ha with h1 | h1
    · exact .inl (List.mem_map.2 ⟨i, h1, rfl⟩)
    · exact .inr (List.mem_map.2 ⟨k, h1, rfl⟩)
  · intro D hD
    have h1 := no_less (D := (List.range c.length).filter fun i => D.contains (src (nth c i))) (List.nodup_range.filter _) (fun g s hg hs e => by
      have h1 : (nth c g).register = 1 := by simpa using (List.mem_filter.1 hg).2
      have h2 : (nth c s).register = 2 := by simpa using (List.mem_filter.1 hs).2
      rw [e] at h1; omega) hI (fun f hf x hx => by
      obtain ⟨f1, _⟩ := List.mem_filter.1 hf
      obtain ⟨x1, x2⟩ := List.mem_filter.1 hx
      have he : edg c (src (nth c f)) (src (nth c x)) := edg_iff.2 ⟨_, getD_mem (List.mem_range.1 f1), _, getD_mem (List.mem_range.1 x1), x2, rfl, rfl⟩
      rcases hD _ _ he with h2 | h2
      · exact .inl (List.mem_filter.2 ⟨f1, by simpa using h2⟩)
      · exact .inr (List.mem_filter.2 ⟨x1, by simpa using h2⟩))
    refine Nat.le_trans h1 ?_
    have h2 := nodup_le (L := ((List.range c.length).filter fun i => D.contains (src (nth c i))).map fun i => src (nth c i)) (D := D) (nodup_map (List.nodup_range.filter _) fun a b ha hb e => nth_inj h (List.mem_range.1 (List.mem_filter.1 ha).1) (List.mem_range.1 (List.mem_filter.1 hb).1) e) fun x hx => by
      obtain ⟨i, hi, rfl⟩ := List.mem_map.1 hx
      simpa using (List.mem_filter.1 hi).2
    rwa [List.length_map] at h2
def parI (σ : KS Nat) (k : Nat) : Int := match σ.of k with
  | some g => Int.ofNat g
  | none => -1
def memI (n : Nat) (σ : KS Nat) : VS := [(0, .arr n 1 (fun k => [.int .i64 (parI σ k)]) 3), (1, .arr n 1 (fun k => [.bool (σ.seen k)]) 4)]
theorem see_cell {n : Nat} {σ : KS Nat} {k : Nat} (q : Nat) (_ : q < n) : (bif Nat.beq q (0 + k) then ppaste [PV.bool (σ.seen (0 + k))] 0 [PV.bool true] else [PV.bool (σ.seen q)]) = [PV.bool ((σ.see k).seen q)] := by
  rw [Nat.zero_add]
  by_cases h : q = k
  · subst h
    rw [Nat.beq_refl, show (σ.see q).seen q = true from see_seen.2 (.inl rfl)]; rfl
  · rw [beq_ne h, show (σ.see k).seen q = σ.seen q from upd_ne h]; rfl
theorem pair_cell {n : Nat} {σ : KS Nat} {i k : Nat} (q : Nat) (_ : q < n) : (bif Nat.beq q (0 + k) then ppaste [PV.int .i64 (parI σ (0 + k))] 0 [PV.int .i64 (Int.ofNat i)] else [PV.int .i64 (parI σ q)]) = [PV.int .i64 (parI (σ.pair i k) q)] := by
  rw [Nat.zero_add]
  by_cases h : q = k
  · subst h
    have : (σ.pair i q).of q = some i := upd_eq
    unfold parI
    rw [Nat.beq_refl, this]; rfl
  · have : (σ.pair i k).of q = σ.of q := upd_ne h
    unfold parI
    rw [beq_ne h, this]; rfl
set_option maxHeartbeats 4000000 in
theorem partner_ok {b : Bool} {c : List Opn} (hz : Szs c) (hn : c.length ≤ 60) : ∀ (k i : Nat) (σ : KS Nat), i < c.length → WS (fun f => f < c.length) (fun x => x < c.length) σ → left (List.range c.length) σ < k →
    VC (sE r) [0, 1] 121 [.p (eOpns b c), nv i, .sl 0 1 0 c.length c.length 1, .sl 1 1 0 c.length c.length 1] (memI c.length σ) (fun a L => a = bv (tryK (adjI c) k i σ).1 ∧ L = memI c.length (tryK (adjI c) k i σ).2)
  | 0, _, _, _, _, h => absurd h (Nat.not_lt_zero _)
  | k + 1, i, σ, hi, hW, hk => by
    have ih := fun g τ h1 h2 h3 => partner_ok (b := b) hz hn k g τ h1 h2 h3
    have hzi := hz.each i hi
    refine VC.of (fn := Tryz.f121) tb_ok (wk_ok rfl) (by kernel_rfl) rfl rfl ?_
    refine VSt.go tb_ok false [] 200 rfl AllP.n ?_
    refine VSt.loop (α := Nat) (fun j F L => F = [(0, .p (eOpns b c)), (1, nv i), (2, .sl 0 1 0 c.length c.length 1), (3, .sl 1 1 0 c.length c.length 1), (9, nv j)] ∧ ∃ σj, (j ≤ c.length ∧ loopK (tryK (adjI c) k) i (adjI c i) σ = loopK (tryK (adjI c) k) i (remI c i j) σj ∧ WS (fun f => f < c.length) (fun x => x < c.length) σj ∧ left (List.range c.length) σj ≤ left (List.range c.length) σ) ∧ L = memI c.length σj) (fun j => c.length - j) 0 (by refine Wk.vw (ps := [(0, 0), (1, 1)]) ⟨rfl, rfl, (by repeat (first | exact wf_nil | refine wf_back rfl rfl rfl ?_)), _, rfl, ((LImp.refl _))⟩) ⟨rfl, σ, ⟨Nat.zero_le _, rfl, hW, Nat.le_refl _⟩, rfl⟩ ?_
    rintro j F L ⟨rfl, σj, ⟨hj0, e1, hWj, hlj⟩, rfl⟩
    refine VSt.go tb_ok false [] 200 rfl AllP.n ?_
    refine VSt.cond rfl (fun h => ?_) (fun h => ?_)
    · have hj := nlt h
      have hjB : j ∈ List.range c.length := List.mem_range.2 hj
      refine VSt.go tb_ok false [] 200 rfl (AllP.c (by assumption) (AllP.c rfl (AllP.c (by assumption) (AllP.c rfl AllP.n)))) ?_
      refine VSt.pcD rfl rfl rfl rfl rfl rfl rfl rfl ((rclash_ok (a := nth c i) (b := nth c j) hzi (hz.each j hj))) ?_
      refine VSt.go tb_ok false [] 200 rfl AllP.n ?_
      refine VSt.splitD 27 rfl (fun h1 => ?_) (fun h1 => ?_)
      · have h1 : isP (nth c i) (nth c j) = false := by
          have h1 : (!(isP (nth c i) (nth c j) && true)) = true := h1
          simpa using h1
        refine VSt.go tb_ok false [] 200 rfl (AllP.c (by unfold inR; (try simp only [Int.ofNat_eq_natCast]); omega) AllP.n) ?_
        rw [remI_f hj h1] at e1
        exact ⟨j + 1, _, _, by refine Wk.vw (ps := [(0, 0), (1, 1)]) ⟨rfl, rfl, (by repeat (first | exact wf_nil | refine wf_back rfl rfl rfl ?_)), _, rfl, ((LImp.refl _))⟩, ⟨rfl, σj, ⟨hj, e1, hWj, hlj⟩, rfl⟩, by omega⟩
      have h1 : isP (nth c i) (nth c j) = true := by
        have h1 : (!(isP (nth c i) (nth c j) && true)) = false := h1
        simpa using h1
      rw [remI_t hj h1] at e1
      refine VSt.go tb_ok false [] 200 rfl (AllP.c (by assumption) (AllP.c rfl (AllP.c (by omega) (AllP.c rfl AllP.n)))) ?_
      refine VSt.cond rfl (fun h2 => ?_) (fun h2 => ?_)
      · have h2 : σj.seen j = true := by
          have h2 : σj.seen (0 + j) = true := h2
          rwa [Nat.zero_add] at h2
        refine VSt.go tb_ok false [] 200 rfl (AllP.c (by unfold inR; (try simp only [Int.ofNat_eq_natCast]); omega) AllP.n) ?_
        rw [loopK_seen h2] at e1
        exact ⟨j + 1, _, _, by refine Wk.vw (ps := [(0, 0), (1, 1)]) ⟨rfl, rfl, (by repeat (first | exact wf_nil | refine wf_back rfl rfl rfl ?_)), _, rfl, ((LImp.refl _))⟩, ⟨rfl, σj, ⟨hj, e1, hWj, hlj⟩, rfl⟩, by omega⟩
      have h2 : σj.seen j = false := by
        have h2 : σj.seen (0 + j) = false := h2
        rwa [Nat.zero_add] at h2
      have hWs := hWj.see j
      have hls := left_see h2 hjB
      refine VSt.go tb_ok false [] 200 rfl (AllP.c (by assumption) (AllP.c rfl (AllP.c (by omega) (AllP.c rfl (AllP.c (Nat.le_refl _) (AllP.c (by assumption) (AllP.c rfl (AllP.c (by omega) (AllP.c rfl AllP.n))))))))) ?_
      refine VSt.viewC (Wk.vw (ps := [(0, 0), (1, 1)]) (F0 := [(0, .p (eOpns b c)), (1, nv i), (2, .sl 0 1 0 c.length c.length 1), (3, .sl 1 1 0 c.length c.length 1), (9, nv j), (10, bv (decide (parI σj (0 + j) < 0))), (42, bv (!decide (parI σj (0 + j) < 0)))]) (L0 := memI c.length (σj.see j)) ⟨rfl, rfl, (by repeat (first | exact wf_nil | refine wf_back rfl rfl rfl ?_)), _, rfl, ⟨rfl, BImp.refl _, rfl, BImp.arr' rfl see_cell, trivial⟩⟩) ?_
      refine VSt.cond rfl (fun h3 => ?_) (fun h3 => ?_)
      · have h3 := nt h3
        rw [Nat.zero_add] at h3
        have hog : ∃ g, σj.of j = some g := by
          cases ho : σj.of j with
          | some g => exact ⟨g, rfl⟩
          | none =>
            have : parI σj j = -1 := by unfold parI; rw [ho]
            rw [this] at h3; exact absurd h3 (by decide)
        refine Exists.elim hog fun g ho => ?_
        have hg := (hWj.of_ _ _ ho).2
        have hp : parI (σj.see j) (0 + j) = Int.ofNat g := by
          rw [Nat.zero_add]
          show (match σj.of j with | some g => Int.ofNat g | none => -1) = _
          rw [ho]
        have hcall := ih g (σj.see j) hg hWs (by omega)
        refine VSt.go tb_ok false [50] 200 rfl (AllP.c (by assumption) (AllP.c rfl (AllP.c (by omega) (AllP.c rfl AllP.n)))) ?_
        refine VSt.putO 47 (nv g) rfl (iv_nv hp) ?_
        refine VSt.cc [(0, 0), (1, 1)] rfl rfl rfl rfl rfl rfl rfl rfl rfl rfl rfl hcall ?_
        rintro a L' ⟨rfl, rfl⟩
        have hW2 := tryK_ws (Fs := fun f => f < c.length) (Sec := fun x => x < c.length) (adj := adjI c) (fun p hp x hx => adjI_lt hx) k g (σj.see j) hg hWs
        have hl2 := left_mono (τ := (tryK (adjI c) k g (σj.see j)).2) (fun t ht => tryK_grow k g (σj.see j) t ht) (List.range c.length)
        refine VSt.go tb_ok false [] 200 rfl AllP.n ?_
        refine VSt.cond rfl (fun h5 => ?_) (fun h5 => ?_)
        · have h5 : (tryK (adjI c) k g (σj.see j)).1 = true := h5
          rw [loopK_win h2 ho h5] at e1
          have e2 : tryK (adjI c) (k + 1) i σ = (true, (tryK (adjI c) k g (σj.see j)).2.pair i j) := e1
          refine VSt.go tb_ok false [] 200 rfl (AllP.c (by assumption) (AllP.c rfl (AllP.c (by omega) (AllP.c rfl (AllP.c (Nat.le_refl _) AllP.n))))) ?_
          refine ⟨rfl, _, [(0, 0), (1, 1)], bv true, memI c.length ((tryK (adjI c) k g (σj.see j)).2.pair i j), rfl, ⟨rfl, rfl, wf_imp rfl rfl (AImp.refl _) wf_nil, _, rfl, ⟨rfl, BImp.arr' rfl pair_cell, rfl, BImp.refl _, trivial⟩⟩, ?_, ?_⟩
          · rw [e2]
          · rw [e2]
        · have h5 : (tryK (adjI c) k g (σj.see j)).1 = false := h5
          rw [loopK_lose h2 ho h5] at e1
          refine VSt.go tb_ok false [] 200 rfl (AllP.c (by unfold inR; (try simp only [Int.ofNat_eq_natCast]); omega) AllP.n) ?_
          exact ⟨j + 1, _, _, by refine Wk.vw (ps := [(0, 0), (1, 1)]) ⟨rfl, rfl, (by repeat (first | exact wf_nil | refine wf_back rfl rfl rfl ?_)), _, rfl, ((LImp.refl _))⟩, ⟨rfl, (tryK (adjI c) k g (σj.see j)).2, ⟨hj, e1, hW2, by omega⟩, rfl⟩, by omega⟩
      · have h3 := nf h3
        have h3' := h3
        rw [Nat.zero_add] at h3
        have ho : σj.of j = none := by
          cases ho : σj.of j with
          | none => rfl
          | some g =>
            have : parI σj j = Int.ofNat g := by unfold parI; rw [ho]
            rw [this] at h3
            have := of_decide_eq_true h3
            simp only [Int.ofNat_eq_natCast] at this
            omega
        rw [loopK_free h2 ho] at e1
        have e2 : tryK (adjI c) (k + 1) i σ = (true, (σj.see j).pair i j) := e1
        refine VSt.putC 10 (bv true) rfl (AImp.of_eq (by rw [h3'])) ?_
        refine VSt.go tb_ok false [] 200 rfl AllP.n ?_
        refine VSt.cond rfl (fun _ => ?_) (fun h => absurd h (by decide))
        refine VSt.go tb_ok false [] 200 rfl (AllP.c (by assumption) (AllP.c rfl (AllP.c (by omega) (AllP.c rfl (AllP.c (Nat.le_refl _) AllP.n))))) ?_
        refine ⟨rfl, _, [(0, 0), (1, 1)], bv true, memI c.length ((σj.see j).pair i j), rfl, ⟨rfl, rfl, wf_imp rfl rfl (AImp.refl _) wf_nil, _, rfl, ⟨rfl, BImp.arr' rfl pair_cell, rfl, BImp.refl _, trivial⟩⟩, ?_, ?_⟩
        · rw [e2]
        · rw [e2]
    · have hj : j = c.length := by have := nge h; omega
      subst hj
      have e2 : tryK (adjI c) (k + 1) i σ = (false, σj) := by
        have : remI c i c.length = [] := by unfold remI; rw [List.drop_of_length_le (by rw [List.length_range]; exact Nat.le_refl _)]; rfl
        rw [this] at e1; exact e1
      refine VSt.go tb_ok false [] 200 rfl AllP.n ?_
      refine ⟨rfl, _, [(0, 0), (1, 1)], bv false, memI c.length σj, rfl, ⟨rfl, rfl, wf_imp rfl rfl (AImp.refl _) wf_nil, _, rfl, LImp.refl _⟩, ?_, ?_⟩
      · rw [e2]
      · rw [e2]
def matIk (c : List Opn) (k : Nat) : MS Nat := ((List.range c.length).take k).foldl (stepM (adjI c) 61) ⟨fun _ => none, fun _ => none, 0⟩
theorem matIk_all (c : List Opn) : matIk c c.length = matchI c := by
  unfold matIk matchI runM
  rw [List.take_of_length_le (by rw [List.length_range]; exact Nat.le_refl _)]
theorem matIk_step (c : List Opn) {k : Nat} (h : k < c.length) : matIk c (k + 1) = stepM (adjI c) 61 (matIk c k) k := by
  unfold matIk
  rw [List.take_add_one, List.getElem?_eq_getElem (by rw [List.length_range]; exact h), List.foldl_append]
  simp
theorem matIk_ws (c : List Opn) : ∀ k, k ≤ c.length → WS (fun f => f < c.length) (fun x => x < c.length) (ks0 (matIk c k))
  | 0, _ => ⟨fun s g h => (nomatch h), fun x y h => (nomatch h)⟩
  | k + 1, h => by
    have ih := matIk_ws c k (by omega)
    have h1 := tryK_ws (Fs := fun f => f < c.length) (Sec := fun x => x < c.length) (adj := adjI c) (fun p hp x hx => adjI_lt hx) 61 k (ks0 (matIk c k)) (by omega) ih
    obtain ⟨e1, e2, _⟩ := stepM_eq (adjI c) 61 k (matIk c k)
    rw [matIk_step c (by omega)]
    exact ⟨fun s g hs => h1.of_ s g (by rw [← e1]; exact hs), fun x y hx => h1.to_ x y (by rw [← e2]; exact hx)⟩
theorem parI_congr {σ τ : KS Nat} (h : σ.of = τ.of) (k : Nat) : parI σ k = parI τ k := by
  unfold parI; rw [h]
theorem matIk_n (c : List Opn) : ∀ k, k ≤ c.length → (matIk c k).n ≤ k
  | 0, _ => Nat.le_refl _
  | k + 1, h => by
    have ih := matIk_n c k (by omega)
    obtain ⟨_, _, e3⟩ := stepM_eq (adjI c) 61 k (matIk c k)
    rw [matIk_step c (by omega), e3]
    cases (tryK (adjI c) 61 k (ks0 (matIk c k))).1 with
    | true => exact Nat.succ_le_succ ih
    | false => exact Nat.le_succ_of_le ih
theorem neg_cell {k : Nat} (q : Nat) : (bif Nat.beq q (0 + k) then ppaste [PV.int .i64 (bif Nat.blt (0 + k) k then -1 else 0)] 0 [PV.int .i64 (-1)] else [PV.int .i64 (bif Nat.blt q k then -1 else 0)]) = [PV.int .i64 (bif Nat.blt q (k + 1) then -1 else 0)] := by
  rw [Nat.zero_add]
  by_cases h : q = k
  · subst h
    rw [Nat.beq_refl, blt_t (Nat.lt_succ_self q)]; rfl
  · rw [beq_ne h]
    by_cases h2 : q < k
    · rw [blt_t h2, blt_t (show q < k + 1 by omega)]; rfl
    · rw [blt_f h2, blt_f (show ¬ q < k + 1 by omega)]; rfl
set_option maxHeartbeats 4000000 in
theorem rfewest_ok {b : Bool} {c : List Opn} (hz : Szs c) (hV : Vc c) (hn : c.length ≤ 60) : VP (sE r) 87 [.p (eOpns b c)] (nv (lowN (edg c))) := by
  have hfin : (matchI c).n = lowN (edg c) := (lowN_eq (low_i hV hn)).symm
  refine VP.of (fn := Tryz.f87) tb_ok (wk_ok rfl) (by kernel_rfl) rfl rfl rfl ?_
  refine VSt.go tb_ok false [] 200 rfl (AllP.c (by omega) (AllP.c (by omega) AllP.n)) ?_
  refine VSt.loopT (ti := 4) c.length [0, 3] (fun _ => []) (fun k => [(0, .arr c.length 1 (fun q => [.int .i64 (bif Nat.blt q k then -1 else 0)]) 3)]) (fun _ => True) rfl rfl u0_nil ⟨rfl, BImp.arr' rfl (fun q _ => rfl), trivial⟩ trivial (fun k hk _ => ?_)
  refine VSt.go tb_ok false [] 200 rfl AllP.n ?_
  refine VSt.cond rfl (fun h => ?_) (fun h => ?_)
  · have h := nlt h
    refine VSt.go tb_ok false [] 200 rfl (AllP.c (by assumption) (AllP.c rfl (AllP.c (by omega) (AllP.c rfl (AllP.c (Nat.le_refl _) (AllP.c (by unfold inR; (try simp only [Int.ofNat_eq_natCast]); omega) AllP.n)))))) ?_
    refine ⟨h, ?_, trivial⟩
    refine Wk.vw (ps := [(0, 0)]) ⟨rfl, rfl, (by repeat (first | exact wf_nil | refine wf_back rfl rfl rfl ?_)), _, rfl, (⟨rfl, BImp.arr' rfl (fun q _ => neg_cell q), trivial⟩)⟩
  · have h : k = c.length := by have := nge h; omega
    subst h
    refine VSt.go tb_ok false [] 200 rfl AllP.n ?_
    refine VSt.loopT (ti := 6) c.length [0, 3] (fun k => [(5, nv (matIk c k).n)]) (fun k => [(0, .arr c.length 1 (fun q => [.int .i64 (parI (ks0 (matIk c k)) q)]) 3)]) (fun _ => True) rfl rfl (u0_cons rfl (AImp.refl _) u0_nil) ⟨rfl, BImp.arr' rfl (fun q hq => by rw [blt_t hq]; rfl), trivial⟩ trivial (fun k hk _ => ?_)
    have hkn := matIk_n c k hk
    refine VSt.go tb_ok false [] 200 rfl AllP.n ?_
    refine VSt.cond rfl (fun h => ?_) (fun h => ?_)
    · have h := nlt h
      have hW := matIk_ws c k hk
      have hleft : left (List.range c.length) (ks0 (matIk c k)) < 61 := by
        have h1 : left (List.range c.length) (ks0 (matIk c k)) ≤ (List.range c.length).length := List.length_filter_le _ _
        rw [List.length_range] at h1
        omega
      obtain ⟨e1, e2, e3⟩ := stepM_eq (adjI c) 61 k (matIk c k)
      rw [← matIk_step c h] at e1 e2 e3
      have hpt := partner_ok (r := r) (b := b) hz hn 61 k (ks0 (matIk c k)) h hW hleft
      refine VSt.go tb_ok false [31] 200 rfl (AllP.c (by assumption) (AllP.c (by omega) AllP.n)) ?_
      refine VSt.viewO (Wk.vw (ps := [(0, 0), (1, 1)]) (F0 := [(0, .p (eOpns b c)), (3, .sl 0 1 0 c.length c.length 1), (5, nv (matIk c k).n), (6, nv k), (25, .p (eOpns b c)), (26, nv k), (27, .sl 0 1 0 c.length c.length 1), (30, .sl 1 1 0 c.length c.length 1)]) (L0 := memI c.length (ks0 (matIk c k))) ⟨rfl, rfl, (by repeat (first | exact wf_nil | refine wf_back rfl rfl rfl ?_)), _, rfl, ⟨rfl, BImp.refl _, rfl, BImp.arr' rfl (fun q _ => rfl), trivial⟩⟩) ?_
      refine VSt.cc [(0, 0), (1, 1)] rfl rfl rfl rfl rfl rfl rfl rfl rfl rfl rfl hpt ?_
      rintro a L' ⟨rfl, rfl⟩
      refine VSt.go tb_ok false [] 200 rfl AllP.n ?_
      refine VSt.cond rfl (fun h1 => ?_) (fun h1 => ?_)
      · have h1 : (tryK (adjI c) 61 k (ks0 (matIk c k))).1 = true := h1
        have e4 : (matIk c (k + 1)).n = (matIk c k).n + 1 := by rw [e3, h1]; rfl
        refine VSt.go tb_ok false [] 200 rfl (AllP.c (by unfold inR; (try simp only [Int.ofNat_eq_natCast]); omega) (AllP.c (by unfold inR; (try simp only [Int.ofNat_eq_natCast]); omega) AllP.n)) ?_
        refine ⟨h, ?_, trivial⟩
        dsimp only
        rw [e4]
        refine Wk.vw (ps := [(0, 0)]) ⟨rfl, rfl, (by repeat (first | exact wf_nil | refine wf_back rfl rfl rfl ?_)), _, rfl, (⟨rfl, BImp.arr' rfl (fun q _ => by rw [parI_congr (τ := ks0 (matIk c (k + 1))) e1.symm]), trivial⟩)⟩
      · have h1 : (tryK (adjI c) 61 k (ks0 (matIk c k))).1 = false := h1
        have e4 : (matIk c (k + 1)).n = (matIk c k).n := by rw [e3, h1]; rfl
        refine VSt.go tb_ok false [] 200 rfl (AllP.c (by unfold inR; (try simp only [Int.ofNat_eq_natCast]); omega) AllP.n) ?_
        refine ⟨h, ?_, trivial⟩
        dsimp only
        rw [e4]
        refine Wk.vw (ps := [(0, 0)]) ⟨rfl, rfl, (by repeat (first | exact wf_nil | refine wf_back rfl rfl rfl ?_)), _, rfl, (⟨rfl, BImp.arr' rfl (fun q _ => by rw [parI_congr (τ := ks0 (matIk c (k + 1))) e1.symm]), trivial⟩)⟩
    · have h : k = c.length := by have := nge h; omega
      subst h
      rw [matIk_all, hfin]
      refine VSt.go tb_ok false [] 200 rfl AllP.n ?_
      exact EndsP.mk rfl rfl rfl rfl
end Go.Proofs.YtbieflpgjmgaiaaGreat
/- Walks: the reference's openings without some; whether some may be false. -/
set_option maxRecDepth 100000
namespace Go.Proofs.YtbieflpgjmgaiaaGreat
open Kuhn
variable {r : Rm}
def lessI (c : List Opn) (s : Int) : List Opn := (c.filter fun o => !(o.source == s)).map cpO
theorem cpO_ok {o : Opn} (h : OkO o) : OkO (cpO o) := ⟨h.source, h.register, h.day, h.lawful, h.inn, h.out, h.com, h.known, h.until_⟩
theorem Vc.less {c : List Opn} (h : Vc c) (s : Int) : Vc (lessI c s) := by
  refine ⟨fun o ho => ?_, ?_⟩
  · obtain ⟨x, hx, rfl⟩ := List.mem_map.1 ho
    exact cpO_ok (h.ok x (List.mem_filter.1 hx).1)
  · unfold lessI
    rw [List.pairwise_map]
    exact h.rise.filter _
theorem lessI_len {c : List Opn} {s : Int} : (lessI c s).length ≤ c.length := by
  unfold lessI
  rw [List.length_map]
  exact List.length_filter_le _ _
theorem Szs.of {c : List Opn} (hn : c.length < 1000000) (h : ∀ o, o ∈ c → Sz o) : Szs c := ⟨hn, fun k hk => h _ (getD_mem hk)⟩
theorem Szs.less {c : List Opn} (h : Szs c) (s : Int) : Szs (lessI c s) := Szs.of (Nat.lt_of_le_of_lt lessI_len h.len) fun o ho => by
  obtain ⟨x, hx, rfl⟩ := List.mem_map.1 ho
  exact cpO_sz (h.mem (List.mem_filter.1 hx).1)
end Go.Proofs.YtbieflpgjmgaiaaGreat
/- Walks: the reference's answers. -/
set_option maxRecDepth 100000
namespace Go.Proofs.YtbieflpgjmgaiaaGreat
open Kuhn
variable {r : Rm}
end Go.Proofs.YtbieflpgjmgaiaaGreat
/- Walks: the reference's True, Inside, Sealed: the same answers. -/
set_option maxRecDepth 100000
namespace Go.Proofs.YtbieflpgjmgaiaaGreat
open Kuhn
variable {r : Rm}
end Go.Proofs.YtbieflpgjmgaiaaGreat
/- Walks: the law of what is true, and lay in the chest, and was sealed. -/
set_option maxRecDepth 100000
namespace Go.Proofs.YtbieflpgjmgaiaaGreat
open Kuhn
variable {r : Rm}
theorem szs_cnt {l : List Opn} {d : Int} (hz : Szs l) : Szs (cnt l d nb) := Szs.of (Nat.lt_of_le_of_lt (List.length_filter_le _ _) hz.len) fun o ho => hz.mem (List.mem_filter.1 ho).1
theorem VP.hook {E : Env} {f : FuncId} (hk : hookL E f [] = true) : VP E f [] (bv true) :=
  ⟨rfl, fun S Z j vs hS hv hl => by
    cases hv
    exact ⟨1, .bool true, S, fun m hm => by
      obtain ⟨k, rfl, _⟩ := le_succ_ex hm
      show bf (hookL E f []) _ _ = _
      rw [hk]; rfl, bv true, [], Z, j, hS, .p (.bool true), Ex.refl _ _ _, hl, Stay.refl _ _, rfl, rfl⟩⟩
end Go.Proofs.YtbieflpgjmgaiaaGreat
