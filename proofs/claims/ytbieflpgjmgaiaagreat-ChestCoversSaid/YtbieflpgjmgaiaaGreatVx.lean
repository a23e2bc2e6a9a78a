/- The program's ChestCovers returns true for all numbers without an exception and without changing its arguments: a part of the proof. -/
import Derived.Test.YtbieflpgjmgaiaaGreatVv
import Derived.Test.YtbieflpgjmgaiaaGreatVt
import Derived.Test.YtbieflpgjmgaiaaGreatVe
set_option linter.all false
/- Walks: the law ChestCovers. -/
set_option maxRecDepth 100000
namespace Go.Proofs.YtbieflpgjmgaiaaGreat
open Kuhn
variable {r : Rm}
def bitZ (n : Int) (k : Nat) : Int := IntKind.i64.wrap (Int.ofNat (BitVec.ofInt 64 (n.fdiv (2 ^ (min k 64))) &&& BitVec.ofInt 64 1).toNat)
theorem b_bit {E : Env} {t : TypeId} {n : Int} {k : Nat} : binL E .and t (.int .i64 (n.fdiv (2 ^ (min k 64)))) (.int .i64 1) = some (.int .i64 (bitZ n k)) := rfl
def byK (x : List Opn) (n : Int) : Nat → List Int
  | 0 => []
  | k + 1 => bif bitZ n k == 1 then byK x n k ++ [(nth x k).source] else byK x n k
theorem byK_len (x : List Opn) (n : Int) : ∀ k, (byK x n k).length ≤ k
  | 0 => Nat.le_refl _
  | k + 1 => by
    have := byK_len x n k
    rw [byK]
    cases bitZ n k == 1 with
    | true => simp only [cond_true, List.length_append, List.length_singleton]; omega
    | false => exact Nat.le_succ_of_le this
set_option maxHeartbeats 4000000 in
theorem chestCovers_law {t : Tr (List Value × TypeId)} {b : Bool} {l : List Raw} {n0 n1 : Int} (hn : l.length < 9223372036854775808) (hq : ∀ k, k < l.length → inR (l.getD k default).a7) : VP (sE (t, true)) 7 [.p (eRaws b l), .agg [iv n0, iv n1]] (bv true) := by
  have hR := made_reg l
  have hz := hR.szs
  have hd0 := md_bd (n := n0) (m := 12) (by decide)
  have hd : wth (md n0 12) 0 100000 = true := wth_iff.2 (by omega)
  have hE := askE_yes hR hd
  have hw : SzsW (made l) := ⟨by have := hz.len; omega, fun k hk => ⟨by have := (hz.each k hk).inn; omega, by have := (hz.each k hk).out; omega⟩⟩
  have hM := Made_ok (r := (t, true)) (b := b) hn hq
  have hD := Mod_ok (r := (t, true)) (n := n0) (m := 12) (by decide) (by decide)
  generalize made l = x at *
  generalize md n0 12 = d at *
  have hxl := hR.len
  have hrl := rdE_len x d
  have hpl := prE_len x d
  have hfl := few_le x d
  have e1 : ckFE x d (rdE x d) = 0 := by
    unfold ckFE rdE
    rw [if_pos hE, if_pos hE, ckF_good (reading_ok hR).1]
  have e2 : ckPE x d (zP (prE x d)) = 0 := by
    unfold ckPE prE
    rw [if_pos hE, if_pos hE, (prL_ok (hR.cnt d nb) (Vc.len hR rfl)).1.ck]
  have c0 := Fewest_ok (r := (t, true)) (b := x.isEmpty) (d := d) hw
  have c1 := False_ok (r := (t, true)) (b := x.isEmpty) (d := d) hw
  have c2 := Pairs_ok (r := (t, true)) (b := x.isEmpty) (d := d) hw
  have c3 := CheckFalse_ok (r := (t, true)) (b := x.isEmpty) (sb := (rdE x d).isEmpty) (d := d) (s := rdE x d) hw (by omega)
  have c4 : VP (sE (t, true)) 39 [.p (eOpns x.isEmpty x), iv d, .p (ePairs (prE x d))] (iv (ckPE x d (zP (prE x d)))) := VP.imp (CheckPairs_ok (r := (t, true)) (b := x.isEmpty) (pb := (prE x d).isEmpty) (d := d) (P := zP (prE x d)) hw (by unfold zP; rw [List.length_map]; omega)) ⟨AImp.refl _, AImp.refl _, zP_imp, trivial⟩
  rw [e1] at c3
  rw [e2] at c4
  rw [hE] at c0 c1 c2
  refine VP.of (fn := Tryz.f7) tb_ok (wk_ok rfl) (by kernel_rfl) rfl rfl rfl ?_
  refine VSt.go tb_ok false [] 200 rfl AllP.n ?_
  refine VSt.pc rfl rfl rfl rfl rfl rfl rfl rfl ((VP.hook rfl)) ?_
  refine VSt.go tb_ok false [] 200 rfl AllP.n ?_
  refine VSt.pc rfl rfl rfl rfl rfl rfl rfl rfl (hM) ?_
  refine VSt.go tb_ok false [] 200 rfl (AllP.c (by show 0 < _; omega) AllP.n) ?_
  refine VSt.pc rfl rfl rfl rfl rfl rfl rfl rfl (hD) ?_
  refine VSt.go tb_ok false [] 200 rfl AllP.n ?_
  refine VSt.pc rfl rfl rfl rfl rfl rfl rfl rfl (c0) ?_
  refine VSt.go tb_ok false [] 200 rfl AllP.n ?_
  refine VSt.pc rfl rfl rfl rfl rfl rfl rfl rfl (c1) ?_
  refine VSt.go tb_ok false [] 200 rfl AllP.n ?_
  refine VSt.pc rfl rfl rfl rfl rfl rfl rfl rfl (c2) ?_
  refine VSt.go tb_ok false [] 200 rfl AllP.n ?_
  refine VSt.splitO 42 rfl (fun i1 => ?_) (fun i1 => ?_)
  · exact absurd i1 (by decide)
  refine VSt.go tb_ok false [] 200 rfl AllP.n ?_
  refine VSt.splitO 46 rfl (fun i2 => ?_) (fun i2 => ?_)
  · exact absurd i2 (by decide)
  refine VSt.go tb_ok false [] 200 rfl AllP.n ?_
  refine VSt.splitO 50 rfl (fun i3 => ?_) (fun i3 => ?_)
  · exact absurd i3 (by decide)
  refine VSt.go tb_ok false [] 200 rfl AllP.n ?_
  refine VSt.splitO 54 rfl (fun i4 => ?_) (fun i4 => ?_)
  · exact absurd i4 (by decide)
  refine VSt.go tb_ok false [] 200 rfl AllP.n ?_
  refine VSt.splitO 60 rfl (fun i5 => ?_) (fun i5 => ?_)
  · exact neq_not' (by rw [hrl]) i5
  refine VSt.go tb_ok false [] 200 rfl AllP.n ?_
  refine VSt.splitO 66 rfl (fun i6 => ?_) (fun i6 => ?_)
  · exact neq_not' (by rw [hpl]) i6
  refine VSt.go tb_ok false [] 200 rfl AllP.n ?_
  refine VSt.pc rfl rfl rfl rfl rfl rfl rfl rfl (c3) ?_
  refine VSt.go tb_ok false [] 200 rfl AllP.n ?_
  refine VSt.splitO 73 rfl (fun i7 => ?_) (fun i7 => ?_)
  · exact absurd i7 (by decide)
  refine VSt.go tb_ok false [] 200 rfl AllP.n ?_
  refine VSt.pc rfl rfl rfl rfl rfl rfl rfl rfl (c4) ?_
  refine VSt.go tb_ok false [] 200 rfl AllP.n ?_
  refine VSt.cond rfl (fun i8 => ?_) (fun _ => ?_)
  · exact absurd i8 (by decide)
  refine VSt.go tb_ok false [] 200 rfl AllP.n ?_
  refine VSt.viewC (Vw.adopt 1 1 (fL []) 3 rfl) ?_
  refine VSt.loopT (ti := 15) x.length [3, 6, 7, 8] (fun k => [(14, .acc true 1 1 (byK x n1 k).length)]) (fun k => [(1, .acc (byK x n1 k).length 1 (fL (byK x n1 k)) 3), (0, .cells [iv n0, iv n1] 23)]) (fun _ => True) rfl rfl (u0_cons rfl AImp.nilAcc u0_nil) (LImp.refl _) trivial (fun k hk _ => ?_)
  have hbl := byK_len x n1 k
  refine VSt.go tb_ok false [] 200 rfl AllP.n ?_
  refine VSt.cond rfl (fun h => ?_) (fun h => ?_)
  · have h := nlt h
    refine VSt.go tb_ok false [89] 200 rfl (AllP.c (Nat.le_refl _) AllP.n) ?_
    refine VSt.binA rfl rfl rfl rfl rfl b_shrZ ?_
    refine VSt.binA rfl rfl rfl rfl rfl b_bit ?_
    refine VSt.go tb_ok false [] 200 rfl AllP.n ?_
    refine VSt.cond rfl (fun h1 => ?_) (fun h1 => ?_)
    · have e : byK x n1 (k + 1) = byK x n1 k ++ [(nth x k).source] := by rw [byK, show (bitZ n1 k == 1) = true from h1]; rfl
      have hN := congrArg List.length e
      rw [List.length_append, List.length_singleton] at hN
      refine VSt.go tb_ok false [] 200 rfl (AllP.c (by assumption) (AllP.c rfl (AllP.c (by omega) (AllP.c (by omega) (AllP.c (fun q hq => match q, hq with | 0, _ => rfl) (AllP.c rfl (AllP.c rfl (AllP.c rfl (AllP.c (by unfold inR; (try simp only [Int.ofNat_eq_natCast]); omega) AllP.n))))))))) ?_
      refine ⟨h, ?_, trivial⟩
      exact Wk.vw (ps := [(1, 2), (0, 0)]) ⟨rfl, rfl, (by repeat (first | exact wf_nil | refine wf_back rfl rfl rfl ?_ | refine wf_imp rfl rfl (AImp.acc hN.symm (fun _ => rfl)) ?_)), _, rfl, ⟨rfl, BImp.acc hN.symm (fun x hx => by rw [e]; exact app_int _ _ x hx), rfl, BImp.refl _, trivial⟩⟩
    · have e : byK x n1 (k + 1) = byK x n1 k := by rw [byK, show (bitZ n1 k == 1) = false from h1]; rfl
      refine VSt.go tb_ok false [] 200 rfl (AllP.c (by unfold inR; (try simp only [Int.ofNat_eq_natCast]); omega) AllP.n) ?_
      refine ⟨h, ?_, trivial⟩
      dsimp only
      rw [e]
      refine Wk.vw (ps := [(1, 1), (0, 0)]) ⟨rfl, rfl, (by repeat (first | exact wf_nil | refine wf_back rfl rfl rfl ?_)), _, rfl, ((LImp.refl _))⟩
  · have h : k = x.length := by have := nge h; omega
    subst h
    refine VSt.go tb_ok false [102] 200 rfl AllP.n ?_
    refine VSt.viewO (Vw.kp [6, 7, 8, 14, 100, 101] [(0, 1)] rfl) ?_
    refine VSt.viewO (Vw.freezeA 0 rfl rfl ⟨Nat.le_refl _, rfl⟩) ?_
    refine VSt.putO 14 (.p (eInts (byK x n1 x.length).isEmpty (byK x n1 x.length))) rfl (by exact AImp.of_eq (acc_eInts (j := 0) rfl)) ?_
    refine VSt.go tb_ok false [] 200 rfl AllP.n ?_
    refine VSt.pc rfl rfl rfl rfl rfl rfl rfl rfl ((CheckFalse_ok (b := x.isEmpty) (sb := (byK x n1 x.length).isEmpty) (d := d) (s := byK x n1 x.length) hw (by omega))) ?_
    refine VSt.go tb_ok false [] 200 rfl AllP.n ?_
    refine VSt.splitO 105 rfl (fun g1 => ?_) (fun g1 => ?_)
    · refine VSt.go tb_ok false [] 200 rfl AllP.n ?_
      exact EndsP.mk rfl rfl rfl rfl
    · have g1 : (!(ckFE x d (byK x n1 x.length) == 0)) = false := g1
      have g1 : ckFE x d (byK x n1 x.length) = 0 := by simpa using g1
      have hle : fewV x d ≤ (byK x n1 x.length).length := by
        unfold ckFE at g1
        rw [if_pos hE] at g1
        unfold fewV
        rw [if_pos hE]
        refine FalseOk.least (hR.cnt d nb) (Vc.len hR rfl) (Classical.byContradiction fun hno => ?_)
        rw [ckF_bad hno] at g1
        exact absurd g1 (by decide)
      refine VSt.go tb_ok false [] 200 rfl AllP.n ?_
      refine EndsP.mk rfl rfl rfl ?_
      show bv (decide (Int.ofNat (fewV x d) ≤ Int.ofNat (byK x n1 x.length).length)) = bv true
      rw [decide_eq_true (by simp only [Int.ofNat_eq_natCast]; omega)]
end Go.Proofs.YtbieflpgjmgaiaaGreat
