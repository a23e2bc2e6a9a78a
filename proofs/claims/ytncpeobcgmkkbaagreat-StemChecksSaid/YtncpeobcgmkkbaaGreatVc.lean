/- The program's StemChecks returns true for every stem and every ones, valid or not, without an exception and without changing its arguments: a part of the proof. -/
import Derived.Test.YtncpeobcgmkkbaaGreatVb
set_option linter.all false
/- Operations that leave the memory, as a walk sees them. -/
namespace Go.Proofs.YtncpeobcgmkkbaaGreat

def vget (i : VT) (off : Nat) (as : List AV) : Option AV := bif i.agg then (bif Nat.ble (off + i.size) as.length then some (.agg ((as.drop off).take i.size)) else none) else as[off]?
def vload (tb : Tab) (L : VS) (t : Nat) (x : AV) : Option (List Prop × AV) := match tget tb t with
  | none => none
  | some i => match x with
    | .ref b off => match bk L b with
      | some (.cells cs _) => match vget i off cs with
        | some a => some ([], a)
        | none => none
      | _ => none
    | .el b sz k off => match bk L b with
      | some (.arr n sz' f _) => match vget i off ((f k).map .p) with
        | some a => some ([k < n, sz = sz'], a)
        | none => none
      | some (.acc n sz' f _) => match vget i off ((f k).map .p) with
        | some a => some ([k < n, sz = sz'], a)
        | none => none
      | _ => none
    | .p (.fp ps off) => match vget i off (ps.map .p) with
      | some a => some ([], a)
      | none => none
    | _ => none
def vpick (c a b : AV) : Option (List Prop × AV) := match c with
  | .p (.bool t) => match a, b with
    | .p (.int k x), .p (.int l y) => bif decide (k = l) then some ([], .p (.int k (bif t then x else y))) else none
    | .p (.bool x), .p (.bool y) => some ([], .p (.bool (bif t then x else y)))
    | _, _ => none
  | _ => none
def veqop (tb : Tab) (op : BinOp) (t : Nat) (x y : AV) : Option (List Prop × AV) := match op with
  | .eql => match veq tb t x y with
    | some b => some ([], .p (.bool b))
    | none => none
  | .neq => match veq tb t x y with
    | some b => some ([], .p (.bool !b))
    | none => none
  | _ => none
def vbinp (op : BinOp) (x y : AV) : Option (List Prop × AV) := match x, y with
  | .p a, .p b => match vbin op a b with
    | some r => some (r.1, .p r.2)
    | none => none
  | _, _ => none
def vbinop (tb : Tab) (op : BinOp) (t : Nat) (x y : AV) : Option (List Prop × AV) := match vbinp op x y with
  | some r => some r
  | none => veqop tb op t x y
def vun (op : UnOp) (x : AV) : Option (List Prop × AV) := match op, x with
  | .not, .p (.bool b) => some ([], .p (.bool !b))
  | .neg, .p (.int .i64 a) => some ([inR (0 - a)], .p (.int .i64 (0 - a)))
  | _, _ => none
def vconv (tb : Tab) (src dst : Nat) (x : AV) : Option (List Prop × AV) := match tget tb src, tget tb dst, x with
  | some _, some ⟨_, _, .int .i64, _⟩, .p (.int _ n) => some ([inR n], .p (.int .i64 n))
  | some _, some ⟨_, _, .int k, _⟩, .p (.int _ n) => some ([k.wrap n = n], .p (.int k n))
  | some _, some ⟨_, _, .str, _⟩, .p (.str s) => some ([], .p (.str s))
  | _, _, _ => none
def vfieldAddr (tb : Tab) (t : Nat) (x : AV) (f : Nat) : Option (List Prop × AV) := match tget tb t with
  | some ⟨_, _, .struct _ fs, _⟩ => match fs[f]? with
    | some q => bif Nat.blt 0 q.2.1 then (match x with
      | .ref b off => some ([], .ref b (off + q.1))
      | .el b sz k off => some ([], .el b sz k (off + q.1))
      | .p (.fp ps off) => some ([], .p (.fp ps (off + q.1)))
      | _ => none) else none
    | none => none
  | _ => none
def vfield (tb : Tab) (t : Nat) (x : AV) (f : Nat) : Option (List Prop × AV) := match tget tb t, x with
  | some ⟨_, _, .struct _ fs, _⟩, .agg cs => match fs[f]? with
    | some q => bif q.2.2 then (bif Nat.ble (q.1 + q.2.1) cs.length then some ([], .agg ((cs.drop q.1).take q.2.1)) else none) else (match cs[q.1]? with
      | some a => some ([], a)
      | none => none)
    | none => none
  | _, _ => none
def vindexAddr (tb : Tab) (t : Nat) (x ix : AV) : Option (List Prop × AV) := match tget tb t, ix with
  | some ⟨_, _, .slice _ esz, _⟩, .p (.int _ (.ofNat k)) => match x with
    | .p (.lst _ _ n f) => some ([k < n, (f k).length = esz], .p (.fp (f k) 0))
    | .sl b sz off n _ _ => some ([k < n, sz = esz], .el b sz (off + k) 0)
    | .acc _ b sz n => some ([k < n, sz = esz], .el b sz k 0)
    | _ => none
  | some ⟨_, _, .arr n esz _, _⟩, .p (.int _ (.ofNat k)) => match x with
    | .ref b off => some ([k < n], .ref b (off + k * esz))
    | .p (.fp ps off) => some ([k < n], .p (.fp ps (off + k * esz)))
    | _ => none
  | _, _ => none
def vindex (tb : Tab) (t : Nat) (x ix : AV) : Option (List Prop × AV) := match tget tb t, x, ix with
  | some ⟨_, _, .arr n esz ag, _⟩, .agg cs, .p (.int _ (.ofNat k)) => bif ag then (bif Nat.ble (k * esz + esz) cs.length then some ([k < n], .agg ((cs.drop (k * esz)).take esz)) else none) else (match cs[k * esz]? with
    | some a => some ([k < n], a)
    | none => none)
  | some ⟨_, _, .str, _⟩, .p (.str s), .p (.int _ (.ofNat k)) => some ([k < s.size], .p (.int .u8 (s[k]?.getD 0).toNat))
  | _, _, _ => none
def vlookup (tb : Tab) (L : VS) (t : Nat) (x k : AV) (ok : Bool) : Option (List Prop × AV) := match tget tb t, x, k with
  | some ⟨_, _, .mapI, _⟩, .map i, .p (.int .i64 k) => match bk L i with
    | some (.mapI f) => bif ok then some ([], .tup [.p (.int .i64 ((f k).getD 0)), .p (.bool (f k).isSome)]) else some ([], .p (.int .i64 ((f k).getD 0)))
    | _ => none
  | _, _, _ => none
def vextract (x : AV) (i : Nat) : Option (List Prop × AV) := match x with
  | .tup vs => match vs[i]? with
    | some a => some ([], a)
    | none => none
  | _ => none
def vnil (x : AV) : Option (List Prop × AV) := match x with
  | .ref i o => some ([], .ref i o)
  | .el i s k o => some ([], .el i s k o)
  | .p (.fp ps o) => some ([], .p (.fp ps o))
  | .fn f a b => some ([], .fn f a b)
  | .yld l => some ([], .yld l)
  | _ => none
def onat (F : VK) (d : Nat) : Option Operand → Option Nat
  | none => some d
  | some x => match av F x with
    | some (.p (.int _ (.ofNat k))) => some k
    | _ => none
/-- s[:0:0] -/
def isZ (F : VK) : Option Operand → Bool
  | none => false
  | some x => match av F x with
    | some (.p (.int _ (.ofNat 0))) => true
    | _ => false
def loZ (F : VK) : Option Operand → Bool
  | none => true
  | some x => isZ F (some x)
def vslice0 (tb : Tab) (F : VK) (t : Nat) (x : AV) (lo hi mx : Option Operand) : Option (List Prop × AV) := match tget tb t with
  | some ⟨_, _, .slice elem _, _⟩ => bif loZ F lo && (isZ F hi && isZ F mx) then (match x with
    | .p (.lst ty true 0 f) => some ([], .p (.lst ty true 0 f))
    | .p (.lst ty false _ _) => bif Nat.beq ty elem then some ([], .p .emp) else none
    | _ => none) else none
  | _ => none
def vslice (tb : Tab) (F : VK) (L : VS) (t : Nat) (x : AV) (lo hi mx : Option Operand) : Option (List Prop × AV) := match mx, tget tb t with
  | none, some ⟨_, _, .slice elem esz, _⟩ => match x with
    | .p (.lst ty nb n f) => match onat F 0 lo, onat F n hi with
      | some l, some h => bif Nat.beq ty elem then some ([l ≤ h, h ≤ n, ∀ k, k < n → (f k).length = esz], .p (.lst ty nb (h - l) fun k => f (l + k))) else none
      | _, _ => none
    | .sl b sz off n c ex => match onat F 0 lo, onat F n hi, bk L b with
      | some l, some h, some (.arr _ sz' _ t') => bif Nat.beq t' elem then some ([l ≤ h, h ≤ c, l < c ∨ l = 0, sz = esz], .sl b sz (off + l) (h - l) (c - l) ex) else none
      | _, _, _ => none
    | .acc _ b sz n => match onat F 0 lo, onat F n hi, bk L b with
      | some l, some h, some (.acc m _ _ t') => bif Nat.beq t' elem then some ([l ≤ h, h ≤ n, l < n, sz = esz, n = m], .sl b sz l (h - l) (n - l) 0) else none
      | _, _, _ => none
    | _ => none
  | _, _ => none
def vlen (tb : Tab) (L : VS) (t : Nat) (x : AV) : Option (List Prop × AV) := match tget tb t, x with
  | some ⟨_, _, .slice _ _, _⟩, .p (.lst _ _ n _) => some ([], .p (.int .i64 (Int.ofNat n)))
  | some ⟨_, _, .slice _ _, _⟩, .p .emp => some ([], .p (.int .i64 (Int.ofNat 0)))
  | some ⟨_, _, .slice _ _, _⟩, .sl _ _ _ n _ _ => some ([], .p (.int .i64 (Int.ofNat n)))
  | some ⟨_, _, .slice _ _, _⟩, .acc _ _ _ n => some ([], .p (.int .i64 (Int.ofNat n)))
  | some ⟨_, _, .str, _⟩, .p (.str s) => some ([], .p (.int .i64 (Int.ofNat s.size)))
  | _, _ => none
def vcallP (tb : Tab) (F : VK) (L : VS) (c : Call) : Option (List Prop × AV) := match c.callee, c.argTypes.toList, avs F c.args.toList with
  | .builtin .len, [t], some [x] => vlen tb L t x
  | .builtin .max, _, some [.p (.int .i64 a), .p (.int .i64 b)] => some ([], .p (.int .i64 (max a b)))
  | .builtin .min, _, some [.p (.int .i64 a), .p (.int .i64 b)] => some ([], .p (.int .i64 (min a b)))
  | _, _, _ => none
def acells : AV → Option (List AV)
  | .agg cs => some cs
  | .tup _ => none
  | .junk => none
  | a => some [a]
def vpaste (cs : List AV) (off : Nat) (vs : List AV) : Option (List AV) := bif Nat.ble (off + vs.length) cs.length then some (cs.take off ++ vs ++ cs.drop (off + vs.length)) else none
def vparts (F : VK) : List (Nat × Operand) → Option (List (Nat × AV))
  | [] => some []
  | p :: ps => match av F p.2, vparts F ps with
    | some a, some l => some ((p.1, a) :: l)
    | _, _ => none
def vfill (place : Nat → Option (Nat × Nat)) (cs : List AV) : List (Nat × AV) → Option (List AV)
  | [] => some cs
  | p :: ps => match place p.1, acells p.2 with
    | some q, some l => bif Nat.beq l.length q.2 then (match vpaste cs q.1 l with
      | some c => vfill place c ps
      | none => none) else none
    | _, _ => none
def vplace (fs : List (Nat × Nat × Bool)) (i : Nat) : Option (Nat × Nat) := match fs[i]? with
  | some q => some (q.1, q.2.1)
  | none => none
def vbuild (tb : Tab) (F : VK) (t : Nat) (parts : List (Nat × Operand)) : Option (List Prop × AV) := match tget tb t, vparts F parts with
  | some ⟨_, _, .struct _ fs, zs⟩, some ps => match vfill (vplace fs) (zs.map .p) ps with
    | some c => some ([], .agg c)
    | none => none
  | _, _ => none
def o1 (x : Option AV) (f : AV → Option (List Prop × AV)) : Option (List Prop × AV) := match x with
  | none => none
  | some a => f a
def vpickR (F : VK) (c a b : Operand) : Option (List Prop × AV) := match avr F c with
  | some (.lit true) => o1 (avr F a) fun a => some ([], a)
  | some (.lit false) => o1 (avr F b) fun b => some ([], b)
  | _ => o1 (av F c) fun c => o1 (av F a) fun a => o1 (av F b) fun b => vpick c a b
def vunR (F : VK) (op : UnOp) (x : Operand) : Option (List Prop × AV) := match op, avr F x with
  | .not, some (.lit b) => some ([], .lit !b)
  | _, _ => o1 (av F x) fun a => vun op a
def vopP (tb : Tab) (F : VK) (L : VS) : Op → Option (List Prop × AV)
  | .move x => o1 (avr F x) fun a => some ([], a)
  | .assign x => o1 (avr F x) fun a => some ([], a)
  | .pick c a b => vpickR F c a b
  | .load t a => o1 (av F a) fun x => vload tb L t x
  | .nilCheck x => o1 (av F x) vnil
  | .build t parts => vbuild tb F t parts.toList
  | .binOp op t x y _ => o1 (av F x) fun a => o1 (av F y) fun b => vbinop tb op t a b
  | .unOp op _ x => vunR F op x
  | .convert src dst x => o1 (av F x) fun a => vconv tb src dst a
  | .makeFunc (.func f) first cap => match avs F first.toList, avs F cap.toList with
    | some a, some b => some ([], .fn f a b)
    | _, _ => none
  | .slice t x lo hi mx => o1 (av F x) fun a => match mx with
    | none => vslice tb F L t a lo hi none
    | some m => vslice0 tb F t a lo hi (some m)
  | .fieldAddr t x f => o1 (av F x) fun a => vfieldAddr tb t a f
  | .field t x f => o1 (av F x) fun a => vfield tb t a f
  | .indexAddr t x i => o1 (av F x) fun a => o1 (av F i) fun b => vindexAddr tb t a b
  | .index t x i => o1 (av F x) fun a => o1 (av F i) fun b => vindex tb t a b
  | .lookup t x k ok => o1 (av F x) fun a => o1 (av F k) fun b => vlookup tb L t a b ok
  | .extract x i => o1 (av F x) fun a => vextract a i
  | .call c => vcallP tb F L c
  | _ => none

theorem cut_len {cs r : List Value} {o n : Nat} (h : cut cs o n = some r) : r.length = n := by
  unfold cut at h
  obtain ⟨h1, h2⟩ := gd_some h
  have := ble_le h1
  simp only [Nat.add_eq] at this
  cases h2
  rw [List.length_take, List.length_drop]; omega
theorem cut_sub {cs r : List Value} {o n a m : Nat} (h : cut cs o n = some r) (hm : a + m ≤ n) : cut cs (o + a) m = some ((r.drop a).take m) := by
  unfold cut at h ⊢
  obtain ⟨h1, h2⟩ := gd_some h
  have := ble_le h1
  simp only [Nat.add_eq] at this
  cases h2
  rw [show Nat.ble (Nat.add (o + a) m) cs.length = true from Nat.ble_eq_true_of_le (by show o + a + m ≤ _; omega)]
  show some _ = some _
  rw [List.drop_take, List.take_take, List.drop_drop, Nat.min_eq_left (by omega)]
theorem cut_all (cs : List Value) : cut cs 0 cs.length = some cs := by
  unfold cut
  rw [show Nat.ble (Nat.add 0 cs.length) cs.length = true by simp]
  show some _ = some _
  simp
theorem all_take {l : List Value} {p : Value → Bool} (h : l.all p = true) (n : Nat) : (l.take n).all p = true := by
  rw [List.all_eq_true] at *; exact fun x hx => h x (List.mem_of_mem_take hx)
theorem all_drop {l : List Value} {p : Value → Bool} (h : l.all p = true) (n : Nat) : (l.drop n).all p = true := by
  rw [List.all_eq_true] at *; exact fun x hx => h x (List.mem_of_mem_drop hx)
theorem o1_some {x : Option AV} {f : AV → Option (List Prop × AV)} {r : List Prop × AV} (h : o1 x f = some r) : ∃ a, x = some a ∧ f a = some r := by
  cases x with
  | none => cases h
  | some a => exact ⟨a, rfl, h⟩
section
variable {S : St} {Z : Nat → Prop} {j : Nm} {E : Env} {tb : Tab} {L : VS} {F : VK} {T : Fr}
theorem rdc_eq {S' : St} {b : Nat} (h : S'.cells b = S.cells b) : rdc E S' b = rdc E S b := by
  unfold rdc; rw [h]
theorem SR.rom_new {L : VS} (hS : SR E S Z j L) : E.rom.get S.size = none := by
  cases h : E.rom.get S.size with
  | none => rfl
  | some c => exact absurd (hS.rom _ c h).1 (Nat.lt_irrefl _)
theorem rdc_none {b : Nat} (h : E.rom.get b = none) : rdc E S b = S.cells b := by
  unfold rdc; rw [h]
theorem SR.rd {b i : Nat} {L : VS} (hS : SR E S Z j L) (hj : j i = some b) : rdc E S b = S.cells b := by
  unfold rdc
  cases hr : E.rom.get b with
  | none => rfl
  | some c => exact absurd hj ((hS.rom b c hr).2 i)
theorem load_seg {t : Nat} {x : VT} {i : LTy} {b o off n : Nat} {cs vs : List Value} {ty : TypeId} {as : List AV} {a : AV} (hi : VTok E t x i) (hc : rdc E S b = some (cs, ty)) (hcut : cut cs o n = some vs) (hs : vs.all scalar = true) (hv : VRs E S Z j as vs)
    (h : vget x off as = some a) : ∃ u, loadVarL E t ⟨b, o + off, none⟩ S = some u ∧ VR E S Z j a u := by
  have hlen := hv.length
  have hcl := cut_len hcut
  unfold loadVarL
  rw [hi.get]
  show ∃ u, bf i.agg (ob (ob (rdc E S b) fun c => cut c.1 (o + off) i.size) fun c => some (.agg c.toArray)) (ob (rdc E S b) fun c => c.1[o + off]?) = some u ∧ _
  rw [hc, hi.agg, hi.size]
  unfold vget at h
  cases hg : x.agg with
  | true =>
    rw [hg] at h
    simp only [cond_true] at h
    cases hb : Nat.ble (off + x.size) as.length with
    | false => rw [hb] at h; cases h
    | true =>
      rw [hb] at h
      cases h
      have hle := ble_le hb
      refine ⟨.agg ((vs.drop off).take x.size).toArray, ?_, .agg ?_ ?_⟩
      · show ob (cut cs (o + off) x.size) _ = _
        rw [cut_sub hcut (by omega)]; rfl
      · exact all_take (all_drop hs _) _
      · exact (hv.drop off).take x.size
  | false =>
    rw [hg] at h
    obtain ⟨u, h1, h2⟩ := hv.get h
    refine ⟨u, ?_, h2⟩
    show cs[o + off]? = some u
    rw [cut_get hcut (i := off) (by have := (List.getElem?_eq_some_iff.1 h).1; omega), h1]
theorem vload_ok {t : Nat} {x a : AV} {obs : List Prop} {v : Value} (hT : TabOK E tb = true) (h : vload tb L t x = some (obs, a)) (ho : ∀ P ∈ obs, P) (hS : SR E S Z j L) (hx : VR E S Z j x v) : ∃ p u, v = .pointer (some p) ∧ loadVarL E t p S = some u ∧ VR E S Z j a u := by
  unfold vload at h
  split at h
  · cases h
  · rename_i i hi
    obtain ⟨ti, hti⟩ := vt_ok hT hi
    split at h
    · rename_i b off
      split at h
      · rename_i cs ty hb
        split at h
        · rename_i a' ha'; cases h
          cases hx with
          | ref hj =>
            obtain ⟨b', h1, vs, h2, h3, h4⟩ := hS.blk _ _ hb id
            rw [hj] at h1; cases h1
            obtain ⟨u, h5, h6⟩ := load_seg hti ((hS.rd hj).trans h2) (cut_all vs) h3 h4 ha'
            rw [Nat.zero_add] at h5
            exact ⟨_, u, rfl, h5, h6⟩
        · cases h
      · cases h
    · rename_i b sz k off
      split at h
      · rename_i n sz' f ty hb
        split at h
        · rename_i a' ha'; cases h
          have hk := ho (k < n) (by simp)
          have hsz := ho (sz = sz') (by simp)
          subst hsz
          cases hx with
          | el hj =>
            obtain ⟨b', h1, vs, g, h2, h3, h4, h5⟩ := hS.blk _ _ hb id
            rw [hj] at h1; cases h1
            obtain ⟨u, h6, h7⟩ := load_seg hti ((hS.rd hj).trans h2) (h4 k hk) (h5 k hk).scalars (h5 k hk).toV ha'
            exact ⟨_, u, rfl, h6, h7⟩
        · cases h
      · rename_i n sz' f ty hb
        split at h
        · rename_i a' ha'; cases h
          have hk := ho (k < n) (by simp)
          have hsz := ho (sz = sz') (by simp)
          subst hsz
          cases hx with
          | el hj =>
            obtain ⟨b', h1, vs, g, h2, h3, h4, h5⟩ := hS.blk _ _ hb (fun h0 => by have h0 : n = 0 := h0; omega)
            rw [hj] at h1; cases h1
            obtain ⟨u, h6, h7⟩ := load_seg hti ((hS.rd hj).trans h2) (h4 k hk) (h5 k hk).scalars (h5 k hk).toV ha'
            exact ⟨_, u, rfl, h6, h7⟩
        · cases h
      · cases h
    · rename_i ps off
      split at h
      · rename_i a' ha'; cases h
        cases hx with
        | p hx => cases hx with
          | fp hz hc hcut hps =>
            obtain ⟨u, h6, h7⟩ := load_seg hti hc hcut hps.scalars hps.toV ha'
            exact ⟨_, u, rfl, h6, h7⟩
      · cases h
    · cases h
end
end Go.Proofs.YtncpeobcgmkkbaaGreat
/- Operations that leave the memory: what a walk sees is so. -/
namespace Go.Proofs.YtncpeobcgmkkbaaGreat
section
variable {S : St} {Z : Nat → Prop} {j : Nm} {E : Env} {tb : Tab} {L : VS} {F : VK} {T : Fr}
theorem vpick_ok {c a b z : AV} {obs : List Prop} {vc va vb : Value} (h : vpick c a b = some (obs, z)) (hc : VR E S Z j c vc) (ha : VR E S Z j a va) (hb : VR E S Z j b vb) : ∃ t, vc = .bool t ∧ VR E S Z j z (bf t va vb) := by
  unfold vpick at h
  split at h
  · rename_i t
    cases hc with
    | p hc =>
      cases hc
      refine ⟨t, rfl, ?_⟩
      split at h
      · rename_i k x l y
        cases hk : decide (k = l) with
        | false => rw [hk] at h; cases h
        | true =>
          rw [hk] at h; cases h
          obtain rfl := of_decide_eq_true hk
          cases ha with
          | p ha => cases ha; cases hb with
            | p hb => cases hb; cases t <;> exact .p (.int _ _)
      · cases h
        cases ha with
        | p ha => cases ha; cases hb with
          | p hb => cases hb; cases t <;> exact .p (.bool _)
      · cases h
  · cases h
theorem bin_eql {t : TypeId} {v w : Value} {r : Bool} (hs : (Nat.blt (sortOf v) 2 && Nat.beq (sortOf v) (sortOf w)) = false) (h : equalL E t v w = some r) : binL E .eql t v w = some (.bool r) ∧ binL E .neq t v w = some (.bool !r) := by
  constructor
  · unfold binL; rw [hs]
    show ob (equalL E t v w) _ = _
    rw [h]; rfl
  · unfold binL; rw [hs]
    show ob (equalL E t v w) _ = _
    rw [h]; rfl
theorem eq_desc {t : TypeId} {i : LTy} {v w : Value} {r : Bool} (hi : E.ti.get t = some i) (h : equalD E i v w = some r) : equalL E t v w = some r := by
  unfold equalL; rw [hi]; exact h
theorem veq_ok {t : Nat} {x y : AV} {r : Bool} {v w : Value} (hT : TabOK E tb = true) (h : veq tb t x y = some r) (hx : VR E S Z j x v) (hy : VR E S Z j y w) :
    binL E .eql t v w = some (.bool r) ∧ binL E .neq t v w = some (.bool !r) := by
  unfold veq at h
  split at h
  · cases h
  · rename_i i0 hi0
    obtain ⟨i, hti⟩ := vt_ok hT hi0
    have hd := hti.d
    split at h
    · rename_i hk
      rw [hk] at hd
      split at h
      · cases h
        cases hx with
        | p hx => cases hx; cases hy with
          | p hy =>
            cases hy
            refine bin_eql rfl (eq_desc hti.get ?_)
            unfold equalD; rw [dOk_bool hd]
      · cases h
    · rename_i fs hk
      rw [hk] at hd
      split at h
      · rename_i a b
        cases hl : Nat.beq fs.length a.length with
        | false => rw [hl] at h; cases h
        | true =>
          rw [hl] at h
          change eqInts a b = some r at h
          cases hx with
          | agg hs1 hv1 => cases hy with
            | agg hs2 hv2 =>
              obtain ⟨gs, hgs, hf, hin⟩ := dOk_struct hd
              obtain ⟨hpl, hin⟩ := hin rfl
              have hlen : gs.toList.length = a.length := by
                rw [← fields_len hf]; exact beq_eq hl
              have hq := eqInts_ok (E := E) hin hlen h hv1 hv2
              refine bin_eql rfl (eq_desc hti.get ?_)
              unfold equalD; rw [hgs]
              show gd i.plain _ = _
              rw [hpl, hq]; rfl
      · cases h
    · rename_i e sz hk
      rw [hk] at hd
      have hdd := (dOk_slice hd).1
      split at h
      · cases h
        cases hy with
        | p hy => cases hy with
          | nil => cases hx with
            | p hx => cases hx with
              | nil => refine bin_eql rfl (eq_desc hti.get ?_); unfold equalD; rw [hdd]; rfl
              | lst => refine bin_eql rfl (eq_desc hti.get ?_); unfold equalD; rw [hdd]; rfl
      · cases h
        cases hy with
        | p hy => cases hy with
          | nil => cases hx with
            | sl => refine bin_eql rfl (eq_desc hti.get ?_); unfold equalD; rw [hdd]; rfl
      · cases h
        cases hy with
        | p hy => cases hy with
          | nil => cases hx with
            | accN => refine bin_eql rfl (eq_desc hti.get ?_); unfold equalD; rw [hdd]; rfl
            | accE => refine bin_eql rfl (eq_desc hti.get ?_); unfold equalD; rw [hdd]; rfl
            | accC => refine bin_eql rfl (eq_desc hti.get ?_); unfold equalD; rw [hdd]; show some false = some (_ && false); rw [Bool.and_false]
      · cases h
    · rename_i hk
      rw [hk] at hd
      obtain ⟨pt, hdd⟩ := dOk_ptr hd
      split at h
      · cases h
        cases hy with
        | p hy => cases hy; cases hx with
          | p hx => cases hx; refine bin_eql rfl (eq_desc hti.get ?_); unfold equalD; rw [hdd]; rfl
      · cases h
        cases hy with
        | p hy => cases hy; cases hx with
          | p hx => cases hx; refine bin_eql rfl (eq_desc hti.get ?_); unfold equalD; rw [hdd]; rfl
      · cases h
        cases hy with
        | p hy => cases hy; cases hx; refine bin_eql rfl (eq_desc hti.get ?_); unfold equalD; rw [hdd]; rfl
      · cases h
    · rename_i hk
      rw [hk] at hd
      obtain ⟨_, _, _, hdd⟩ := dOk_func hd
      split at h
      · cases h
        cases hy with
        | p hy => cases hy; cases hx with
          | p hx => cases hx; refine bin_eql rfl (eq_desc hti.get ?_); unfold equalD; rw [hdd]
      · cases h
        cases hy with
        | p hy => cases hy; cases hx; refine bin_eql rfl (eq_desc hti.get ?_); unfold equalD; rw [hdd]
      · cases h
    · rename_i hk
      rw [hk] at hd
      obtain ⟨_, _, hdd⟩ := dOk_map hd
      split at h
      · cases h
        cases hy with
        | p hy => cases hy; cases hx with
          | p hx => cases hx; refine bin_eql rfl (eq_desc hti.get ?_); unfold equalD; rw [hdd]; rfl
      · cases h
        cases hy with
        | p hy => cases hy; cases hx; refine bin_eql rfl (eq_desc hti.get ?_); unfold equalD; rw [hdd]; rfl
      · cases h
    · cases h
theorem vbinop_ok {op : BinOp} {t : Nat} {x y z : AV} {obs : List Prop} {v w : Value} (hT : TabOK E tb = true) (h : vbinop tb op t x y = some (obs, z)) (ho : ∀ P ∈ obs, P) (hx : VR E S Z j x v) (hy : VR E S Z j y w) : ∃ u, binL E op t v w = some u ∧ VR E S Z j z u := by
  unfold vbinop at h
  split at h
  · rename_i r hr
    cases h
    unfold vbinp at hr
    split at hr
    · rename_i a b
      split at hr
      · rename_i r hb
        cases hr
        cases hx with
        | p hx => cases hy with
          | p hy =>
            obtain ⟨u, h1, h2⟩ := vbin_ok (t := t) hb ho hx hy
            exact ⟨u, h1, .p h2⟩
      · cases hr
    · cases hr
  · unfold veqop at h
    split at h
    · split at h
      · rename_i b hb; cases h; exact ⟨_, (veq_ok hT hb hx hy).1, .p (.bool _)⟩
      · cases h
    · split at h
      · rename_i b hb; cases h; exact ⟨_, (veq_ok hT hb hx hy).2, .p (.bool _)⟩
      · cases h
    · cases h
theorem vun_ok {op : UnOp} {x z : AV} {obs : List Prop} {v : Value} (h : vun op x = some (obs, z)) (ho : ∀ P ∈ obs, P) (hx : VR E S Z j x v) : ∃ u, unL op v = some u ∧ VR E S Z j z u := by
  unfold vun at h
  split at h
  · cases h
    cases hx with
    | p hx => cases hx; exact ⟨_, rfl, .p (.bool _)⟩
  · rename_i a
    cases h
    have hr := ho _ List.mem_cons_self
    cases hx with
    | p hx =>
      cases hx
      refine ⟨.int .i64 (0 - a), ?_, .p (.int _ _)⟩
      show some (Value.int .i64 (IntKind.i64.wrap (0 - a))) = _
      rw [wrap64 hr.1 hr.2]
  · cases h
theorem vconv_ok {src dst : Nat} {x z : AV} {obs : List Prop} {v : Value} (hT : TabOK E tb = true) (h : vconv tb src dst x = some (obs, z)) (ho : ∀ P ∈ obs, P) (hx : VR E S Z j x v) :
    ∃ i k u, E.ti.get src = some i ∧ E.ti.get dst = some k ∧ convD k.desc v = some u ∧ VR E S Z j z u := by
  unfold vconv at h
  split at h
  · rename_i n h1 h2
    cases h
    obtain ⟨i, hi⟩ := vt_ok hT h1
    obtain ⟨k, hk⟩ := vt_ok hT h2
    have hr := ho _ List.mem_cons_self
    cases hx with
    | p hx =>
      cases hx
      refine ⟨i, k, .int .i64 n, hi.get, hk.get, ?_, .p (.int _ _)⟩
      rw [dOk_int hk.d]
      show some (Value.int .i64 (IntKind.i64.wrap n)) = _
      rw [wrap64 hr.1 hr.2]
  · rename_i kk n h0 h1 h2
    cases h
    obtain ⟨i, hi⟩ := vt_ok hT h1
    obtain ⟨k, hk⟩ := vt_ok hT h2
    have hr := ho _ List.mem_cons_self
    cases hx with
    | p hx =>
      cases hx
      refine ⟨i, k, .int _ n, hi.get, hk.get, ?_, .p (.int _ _)⟩
      rw [dOk_int hk.d]
      exact congrArg (fun m => some (Value.int _ m)) hr
  · rename_i s h1 h2
    cases h
    obtain ⟨i, hi⟩ := vt_ok hT h1
    obtain ⟨k, hk⟩ := vt_ok hT h2
    cases hx with
    | p hx =>
      cases hx
      refine ⟨i, k, .string s, hi.get, hk.get, ?_, .p (.str _)⟩
      rw [dOk_str hk.d]; rfl
  · cases h
theorem vfieldAddr_ok {t f : Nat} {x z : AV} {obs : List Prop} {v : Value} (hT : TabOK E tb = true) (h : vfieldAddr tb t x f = some (obs, z)) (hx : VR E S Z j x v) : ∃ u, fieldAddrL E t v f = some u ∧ VR E S Z j z u := by
  unfold vfieldAddr at h
  split at h
  · rename_i sz ag ints fs zs hi0
    obtain ⟨i, hti⟩ := vt_ok hT hi0
    obtain ⟨gs, hgs, hf, _⟩ := dOk_struct hti.d
    split at h
    · rename_i q hq
      cases hb : Nat.blt 0 q.2.1 with
      | false => rw [hb] at h; cases h
      | true =>
        rw [hb] at h
        simp only [cond_true] at h
        obtain ⟨g, y, h1, h2, h3, h4, _⟩ := fields_ok hf hq
        have key : ∀ b off : Nat, fieldAddrL E t (.pointer (some ⟨b, off, none⟩)) f = some (ptr b (off + q.1)) := by
          intro b off
          unfold fieldAddrL
          show ob (E.ti.get t) _ = _
          rw [hti.get]
          show ob (structD i.desc) _ = _
          rw [hgs]
          show ob (placesL E gs f) _ = _
          have : placesL E gs f = some (g.offset, y.size) := by
            unfold placesL
            rw [h1]
            show ob (E.ti.get g.type) _ = _
            rw [h3]; rfl
          rw [this]
          show gd (Nat.blt 0 y.size) _ = _
          rw [h4, hb, h2]; rfl
        split at h
        · cases h
          cases hx with
          | ref hj => exact ⟨_, key _ _, .ref hj⟩
        · cases h
          cases hx with
          | el hj =>
            refine ⟨_, key _ _, ?_⟩
            unfold ptr
            rw [Nat.add_assoc]
            exact .el hj
        · cases h
          cases hx with
          | p hx => cases hx with
            | fp hz hc hcut hps =>
              refine ⟨_, key _ _, ?_⟩
              unfold ptr
              rw [Nat.add_assoc]
              exact .p (.fp hz hc hcut hps)
        · cases h
    · cases h
  · cases h
theorem part_ok {t : Nat} {i : LTy} {cs : List AV} {vs : List Value} {o sz : Nat} {ag : Bool} {z : AV} (hi : E.ti.get t = some i) (hsz : i.size = sz) (hag : i.agg = ag) (hs : vs.all scalar = true) (hv : VRs E S Z j cs vs)
    (h : (bif ag then (bif Nat.ble (o + sz) cs.length then some (AV.agg ((cs.drop o).take sz)) else none) else cs[o]?) = some z) : ∃ u, partL E t vs o = some u ∧ VR E S Z j z u := by
  unfold partL
  rw [hi]
  show ∃ u, bf i.agg (ob (cut vs o i.size) fun c => some (.agg c.toArray)) vs[o]? = some u ∧ _
  rw [hag, hsz]
  cases ag with
  | true =>
    simp only [cond_true] at h
    cases hb : Nat.ble (o + sz) cs.length with
    | false => rw [hb] at h; cases h
    | true =>
      rw [hb] at h; cases h
      have := ble_le hb
      rw [hv.length] at this
      refine ⟨.agg ((vs.drop o).take sz).toArray, ?_, .agg (all_take (all_drop hs _) _) ((hv.drop o).take sz)⟩
      show ob (cut vs o sz) _ = _
      have := cut_sub (cut_all vs) (a := o) (m := sz) this
      rw [Nat.zero_add] at this
      rw [this]; rfl
  | false =>
    obtain ⟨u, h1, h2⟩ := hv.get h
    exact ⟨u, h1, h2⟩
theorem vfield_ok {t f : Nat} {x z : AV} {obs : List Prop} {v : Value} (hT : TabOK E tb = true) (h : vfield tb t x f = some (obs, z)) (hx : VR E S Z j x v) : ∃ u, fieldL E t v f = some u ∧ VR E S Z j z u := by
  unfold vfield at h
  split at h
  · rename_i sz ag ints fs zs cs hi0
    obtain ⟨i, hti⟩ := vt_ok hT hi0
    obtain ⟨gs, hgs, hf, _⟩ := dOk_struct hti.d
    split at h
    · rename_i q hq
      obtain ⟨g, y, h1, h2, h3, h4, h5⟩ := fields_ok hf hq
      cases hx with
      | agg hs hv =>
        rename_i vs
        have : ∃ u, partL E g.type vs.toList q.1 = some u ∧ VR E S Z j z u := by
          refine part_ok h3 h4 h5 hs hv ?_
          cases hq2 : q.2.2 with
          | true =>
            rw [hq2] at h
            simp only [cond_true] at h ⊢
            cases hb : Nat.ble (q.1 + q.2.1) cs.length with
            | false => rw [hb] at h; cases h
            | true => rw [hb] at h; cases h; rfl
          | false =>
            rw [hq2] at h
            simp only [cond_false] at h ⊢
            split at h
            · rename_i a ha; cases h; exact ha
            · cases h
        obtain ⟨u, h6, h7⟩ := this
        refine ⟨u, ?_, h7⟩
        unfold fieldL
        show ob (E.ti.get t) _ = _
        rw [hti.get]
        show ob (structD i.desc) _ = _
        rw [hgs]
        show ob gs.toList[f]? _ = _
        rw [h1]
        show partL E g.type vs.toList g.offset = _
        rw [h2]; exact h6
    · cases h
  · cases h
theorem PR.lst_elem {ty n k : Nat} {nb : Bool} {f : Nat → List PV} {v : Value} (h : PR E S Z (.lst ty nb n f) v) (hk : k < n) : ∃ b o sp cap t cs g, nb = false ∧ v = .slice (some ⟨b, o, sp⟩) n cap ∧ n ≤ cap ∧ Z b ∧ rdc E S b = some (cs, t) ∧ cut cs (o + k * (f k).length) (f k).length = some g ∧ PRs E S Z (f k) g := by
  cases h with
  | nil => omega
  | lst g hz hc hcap hoff hty hcut hp =>
    have h1 := hp k hk
    have h2 := hcut k hk
    have h3 : (f k).length = _ := h1.length.trans (cut_len h2)
    exact ⟨_, _, _, _, _, _, g k, rfl, rfl, hcap, hz, hc, by rw [h3]; exact h2, h1⟩
theorem vindexAddr_ok {t : Nat} {x ix z : AV} {obs : List Prop} {v w : Value} (hT : TabOK E tb = true) (h : vindexAddr tb t x ix = some (obs, z)) (ho : ∀ P ∈ obs, P) (hx : VR E S Z j x v) (hix : VR E S Z j ix w) : ∃ u, indexAddrL E t v w = some u ∧ VR E S Z j z u := by
  unfold vindexAddr at h
  split at h
  · rename_i sz ag elem esz zs ik k hi0
    obtain ⟨i, hti⟩ := vt_ok hT hi0
    obtain ⟨hgs, y, hy⟩ := dOk_slice hti.d
    cases hix with
    | p hix =>
      cases hix
      have key : ∀ (a : Addr) (n c : Nat), k < n → indexAddrL E t (.slice (some a) n c) (.int ik (Int.ofNat k)) = some (ptr a.block (a.off + k * esz)) := by
        intro a n c hk
        unfold indexAddrL
        show ob (E.ti.get t) _ = _
        rw [hti.get]
        show indexAddrD E i.desc _ k = _
        rw [hgs]
        show ob (E.ti.get elem) _ = _
        rw [hy.get]
        show gd (Nat.blt k n) (some (ptr a.block (a.off + k * y.size))) = _
        rw [ix_ok hk, hy.size]
      split at h
      · rename_i ty nb n f
        cases h
        have hk := ho (k < n) (by simp)
        have hl := ho ((f k).length = esz) (by simp)
        cases hx with
        | p hx =>
          obtain ⟨b, o, sp, cap, t', cs, g, _, rfl, _, hz, hc, hcut, hp⟩ := hx.lst_elem hk
          refine ⟨_, key _ _ _ hk, ?_⟩
          rw [hl] at hcut
          show VR E S Z j _ (.pointer (some ⟨b, o + k * esz, none⟩))
          exact .p (.fp (off := 0) hz hc (by rw [hl]; exact hcut) hp)
      · rename_i b sz off n c ex
        cases h
        have hk := ho (k < n) (by simp)
        have hl := ho (sz = esz) (by simp)
        subst hl
        cases hx with
        | sl hj =>
          refine ⟨_, key _ _ _ hk, ?_⟩
          unfold ptr
          rw [show off * sz + k * sz = (off + k) * sz + 0 by rw [Nat.add_mul, Nat.add_zero]]
          exact .el hj
      · rename_i nb b sz n
        cases h
        have hk := ho (k < n) (by simp)
        have hl := ho (sz = esz) (by simp)
        subst hl
        cases hx with
        | accN => omega
        | accE => omega
        | accC hj =>
          refine ⟨_, key _ _ _ hk, ?_⟩
          unfold ptr
          rw [show 0 + k * sz = k * sz + 0 by omega]
          exact .el hj
      · cases h
  · rename_i sz ag m esz ag2 zs ik k hi0
    obtain ⟨i, hti⟩ := vt_ok hT hi0
    obtain ⟨e, y, hgs, hy, _⟩ := dOk_arr hti.d
    cases hix with
    | p hix =>
      cases hix
      have key : ∀ (b off : Nat), k < m → indexAddrL E t (.pointer (some ⟨b, off, none⟩)) (.int ik (Int.ofNat k)) = some (ptr b (off + k * esz)) := by
        intro b off hk
        unfold indexAddrL
        show ob (E.ti.get t) _ = _
        rw [hti.get]
        show indexAddrD E i.desc _ k = _
        rw [hgs]
        show ob (E.ti.get e) _ = _
        rw [hy.get]
        show gd (Nat.blt k m) (some (ptr b (off + k * y.size))) = _
        rw [ix_ok hk, hy.size]
      split at h
      · cases h
        have hk := ho (k < m) (by simp)
        cases hx with
        | ref hj => exact ⟨_, key _ _ hk, .ref hj⟩
      · cases h
        have hk := ho (k < m) (by simp)
        cases hx with
        | p hx => cases hx with
          | fp hz hc hcut hps =>
            refine ⟨_, key _ _ hk, ?_⟩
            unfold ptr
            rw [Nat.add_assoc]
            exact .p (.fp hz hc hcut hps)
      · cases h
  · cases h
end
end Go.Proofs.YtncpeobcgmkkbaaGreat
/- Operations that leave the memory, all of them. -/
namespace Go.Proofs.YtncpeobcgmkkbaaGreat
section
variable {S : St} {Z : Nat → Prop} {j : Nm} {E : Env} {tb : Tab} {L : VS} {F : VK} {T : Fr}
theorem vindex_ok {t : Nat} {x ix z : AV} {obs : List Prop} {v w : Value} (hT : TabOK E tb = true) (h : vindex tb t x ix = some (obs, z)) (ho : ∀ P ∈ obs, P) (hx : VR E S Z j x v) (hix : VR E S Z j ix w) : ∃ u, indexL E t v w = some u ∧ VR E S Z j z u := by
  unfold vindex at h
  split at h
  · rename_i sz ag0 m esz ag zs cs ik k hi0
    obtain ⟨i, hti⟩ := vt_ok hT hi0
    obtain ⟨e, y, hgs, hy, hag⟩ := dOk_arr hti.d
    cases hix with
    | p hix =>
      cases hix
      cases hx with
      | agg hs hv =>
        rename_i vs
        have hko : k < m ∧ (bif ag then (bif Nat.ble (k * esz + esz) cs.length then some (AV.agg ((cs.drop (k * esz)).take esz)) else none) else cs[k * esz]?) = some z := by
          cases ag with
          | true =>
            simp only [cond_true] at h ⊢
            cases hb : Nat.ble (k * esz + esz) cs.length with
            | false => rw [hb] at h; cases h
            | true => rw [hb] at h; cases h; exact ⟨ho _ (by simp), rfl⟩
          | false =>
            simp only [cond_false] at h ⊢
            split at h
            · rename_i a ha; cases h; exact ⟨ho _ (by simp), ha⟩
            · cases h
        obtain ⟨u, h6, h7⟩ := part_ok hy.get hy.size hag hs hv hko.2
        refine ⟨u, ?_, h7⟩
        unfold indexL
        show ob (E.ti.get t) _ = _
        rw [hti.get]
        show indexD E i.desc _ k = _
        rw [hgs]
        show ob (E.ti.get e) _ = _
        rw [hy.get]
        show gd (Nat.blt k m) (partL E e vs.toList (k * y.size)) = _
        rw [hy.size, h6, ix_ok hko.1]
  · rename_i sz ag0 zs s ik k hi0
    obtain ⟨i, hti⟩ := vt_ok hT hi0
    cases h
    have hk := ho (k < s.size) (by simp)
    cases hix with
    | p hix =>
      cases hix
      cases hx with
      | p hx =>
        cases hx
        refine ⟨.int .u8 (s[k]?.getD 0).toNat, ?_, .p (.int _ _)⟩
        unfold indexL
        show ob (E.ti.get t) _ = _
        rw [hti.get]
        show indexD E i.desc _ k = _
        rw [dOk_str hti.d]
        show ob s[k]? _ = _
        rw [getElem?_pos s k hk]; rfl
  · cases h
theorem vextract_ok {x z : AV} {i : Nat} {obs : List Prop} {v : Value} (h : vextract x i = some (obs, z)) (hx : VR E S Z j x v) : ∃ vs u, v = .tuple vs ∧ vs.toList[i]? = some u ∧ VR E S Z j z u := by
  unfold vextract at h
  split at h
  · split at h
    · rename_i a ha
      cases h
      cases hx with
      | tup hv =>
        obtain ⟨u, h1, h2⟩ := hv.get ha
        exact ⟨_, u, rfl, h1, h2⟩
    · cases h
  · cases h
theorem vnil_ok {x z : AV} {obs : List Prop} {v : Value} (h : vnil x = some (obs, z)) (hx : VR E S Z j x v) : checkedV v = some v ∧ VR E S Z j z v := by
  unfold vnil at h
  split at h
  · cases h; cases hx with | ref hj => exact ⟨rfl, .ref hj⟩
  · cases h; cases hx with | el hj => exact ⟨rfl, .el hj⟩
  · cases h; cases hx with
    | p hx => cases hx with
      | fp a b c d => exact ⟨rfl, .p (.fp a b c d)⟩
  · cases h; cases hx with | fn a b => exact ⟨rfl, .fn a b⟩
  · cases h; cases hx with | yld a => exact ⟨rfl, .yld a⟩
  · cases h
theorem cut_end {cs r : List Value} {o n : Nat} (h : cut cs o n = some r) : o + n ≤ cs.length := by
  unfold cut at h
  exact ble_le (gd_some h).1
theorem cut_in {cs r : List Value} {o n : Nat} (h : cut cs o n = some r) : o ≤ cs.length := by
  have := cut_end h; omega
theorem onat_ok {d : Nat} {x : Option Operand} {n : Nat} (hF : FRR E S Z j F T) (h : onat F d x = some n) : optNat T d x = some n := by
  unfold onat at h
  split at h
  · cases h; rfl
  · rename_i x
    split at h
    · rename_i ik k ha
      cases h
      obtain ⟨v, h1, h2⟩ := hF.ev ha
      cases h2 with
      | p h2 =>
        cases h2
        show ob (T.ev x) natOf = _
        rw [h1]; rfl
    · cases h
theorem ble_t {a b : Nat} (h : a ≤ b) : Nat.ble a b = true := Nat.ble_eq_true_of_le h
theorem vslice_ok {t : Nat} {x z : AV} {lo hi mx : Option Operand} {obs : List Prop} {v : Value} (hT : TabOK E tb = true) (h : vslice tb F L t x lo hi mx = some (obs, z)) (ho : ∀ P ∈ obs, P) (hS : SR E S Z j L) (hF : FRR E S Z j F T) (hx : VR E S Z j x v) :
    ∃ u, sliceL E t v T lo hi mx S = some u ∧ VR E S Z j z u := by
  unfold vslice at h
  split at h
  · rename_i sz ag elem esz zs hi0
    obtain ⟨i, hti⟩ := vt_ok hT hi0
    obtain ⟨hgs, y, hy⟩ := dOk_slice hti.d
    have key : ∀ (a : Option Addr) (n c : Nat), sliceL E t (.slice a n c) T lo hi none S = gd (elemOk S elem a) (sliceE y a n c T lo hi none) := by
      intro a n c
      obtain ⟨d, s1, b1, z1, p1, a1⟩ := i
      change d = _ at hgs
      subst hgs
      unfold sliceL
      rw [hti.get]
      show ob (E.ti.get elem) _ = _
      rw [hy.get]; rfl
    have key2 : ∀ (a : Option Addr) (n c l h : Nat), elemOk S elem a = true → optNat T 0 lo = some l → optNat T n hi = some h → l ≤ h → h ≤ c →
        sliceL E t (.slice a n c) T lo hi none S = some (Option.rec (.slice none 0 0) (fun a => .slice (some (fromPlace a l y.size c)) (Nat.sub h l) (Nat.sub c l)) a) := by
      intro a n c l h he h1 h2 h3 h4
      rw [key, he]
      show sliceE y a n c T lo hi none = _
      unfold sliceE
      rw [h1]
      show ob (optNat T n hi) _ = _
      rw [h2]
      show gd (Nat.ble l h && Nat.ble h c) _ = _
      rw [ble_t h3, ble_t h4]; rfl
    split at h
    · rename_i ty nb n f
      split at h
      · rename_i l hh hl hhi
        cases hb : Nat.beq ty elem with
        | false => rw [hb] at h; cases h
        | true =>
          rw [hb] at h
          cases h
          obtain rfl := beq_eq hb
          have h1 := ho (l ≤ hh) (by simp)
          have h2 := ho (hh ≤ n) (by simp)
          have h3 := ho (∀ k, k < n → (f k).length = esz) (by simp)
          have hlo := onat_ok hF hl
          have hhi' := onat_ok hF hhi
          cases hx with
          | p hx => cases hx with
            | nil =>
              obtain rfl : hh = 0 := by omega
              obtain rfl : l = 0 := by omega
              exact ⟨_, key2 none 0 0 0 0 rfl hlo hhi' h1 h2, .p (.nil _ _)⟩
            | lst g hz hc hcap hoff hty hcut hp =>
              rename_i b o cap sz' sp cs t'
              have he : elemOk S ty (some ⟨b, o, sp⟩) = true := by
                cases sp with
                | none => rfl
                | some q =>
                  show Option.rec false (fun (c : List Value × TypeId) => Nat.beq c.2 ty) (S.cells b) = true
                  rcases hty with h | ⟨h, h'⟩
                  · cases h
                  · rw [← rdc_none (E := E) h', hc]; subst h; exact Nat.beq_refl _
              refine ⟨_, key2 _ n cap l hh he hlo hhi' h1 (by omega), ?_⟩
              by_cases hlh : l < hh
              · have hsz : sz' = esz := by
                  have := h3 0 (by omega)
                  have h4 := (hp 0 (by omega)).length
                  rw [cut_len (hcut 0 (by omega))] at h4
                  omega
                subst hsz
                have hf : fromPlace ⟨b, o, sp⟩ l y.size cap = ⟨b, o + l * sz', match sp with | none => none | some _ => some 0⟩ := by
                  unfold fromPlace
                  cases sp with
                  | none =>
                    show bf (Nat.beq cap l) _ _ = _
                    rw [beq_ne (by omega), hy.size]; rfl
                  | some q => show Addr.mk _ _ _ = _; rw [hy.size]
                show VR E S Z j _ (.slice (some (fromPlace ⟨b, o, sp⟩ l y.size cap)) (Nat.sub hh l) (Nat.sub cap l))
                rw [hf]
                refine .p (.lst (sz := sz') (fun k => g (l + k)) hz hc (by simp only [Nat.sub_eq]; omega) (cut_in (hcut l (by omega))) ?_ (fun k hk => ?_) (fun k hk => hp (l + k) (by omega)))
                · cases sp with
                  | none => exact .inl rfl
                  | some q => rcases hty with h | h
                              · cases h
                              · exact .inr h
                · have := hcut (l + k) (by omega)
                  rw [show o + l * sz' + k * sz' = o + (l + k) * sz' by rw [Nat.add_mul]; omega]
                  exact this
              · obtain rfl : l = hh := by omega
                show VR E S Z j _ (.slice (some (fromPlace ⟨b, o, sp⟩ l y.size cap)) (Nat.sub l l) (Nat.sub cap l))
                rw [show Nat.sub l l = 0 from Nat.sub_self l]
                have hend : o + l * y.size ≤ cs.length := by
                  by_cases hn0 : l = 0
                  · subst hn0; omega
                  · have hsz : sz' = esz := by
                      have := h3 0 (by omega)
                      have h4 := (hp 0 (by omega)).length
                      rw [cut_len (hcut 0 (by omega))] at h4
                      omega
                    subst hsz
                    rw [hy.size]
                    have := cut_end (hcut (l - 1) (by omega))
                    have e : (l - 1) * sz' + sz' = l * sz' := by
                      rw [← Nat.succ_mul]; congr 1; omega
                    omega
                have : ∃ o', o' ≤ cs.length ∧ (fromPlace ⟨b, o, sp⟩ l y.size cap) = ⟨b, o', match sp with | none => none | some q => some 0⟩ := by
                  unfold fromPlace
                  cases sp with
                  | none =>
                    show ∃ o', _ ∧ bf (Nat.beq cap l) _ _ = _
                    cases Nat.beq cap l
                    · exact ⟨_, hend, rfl⟩
                    · exact ⟨_, hoff, rfl⟩
                  | some q => exact ⟨_, hend, rfl⟩
                obtain ⟨o', hoo, ho'⟩ := this
                rw [ho', Nat.sub_self]
                refine .p (.lst (sz := 0) (fun _ => []) hz hc (Nat.zero_le _) hoo ?_ (fun k hk => by omega) (fun k hk => by omega))
                cases sp with
                | none => exact .inl rfl
                | some q => rcases hty with h | h
                            · cases h
                            · exact .inr h
      · cases h
    · rename_i b sz off n c ex
      split at h
      · rename_i l hh m sz' f' t' hl hhi hb
        cases hbt : Nat.beq t' elem with
        | false => rw [hbt] at h; cases h
        | true =>
          rw [hbt] at h
          cases h
          obtain rfl := beq_eq hbt
          have h1 := ho (l ≤ hh) (by simp)
          have h2 := ho (hh ≤ c) (by simp)
          have h3 := ho (l < c ∨ l = 0) (by simp)
          have h4 := ho (sz = esz) (by simp)
          subst h4
          have hlo := onat_ok hF hl
          have hhi' := onat_ok hF hhi
          cases hx with
          | sl hj =>
            rename_i b'
            obtain ⟨b2, e1, vs, g, hc, _⟩ := hS.blk _ _ hb id
            rw [hj] at e1; cases e1
            have he : elemOk S t' (some ⟨b', off * sz, bif Nat.beq ex 0 then some 0 else none⟩) = true := by
              cases Nat.beq ex 0 with
              | false => rfl
              | true =>
                show Option.rec false (fun (c : List Value × TypeId) => Nat.beq c.2 t') (S.cells b') = true
                rw [hc]; exact Nat.beq_refl _
            refine ⟨_, key2 _ n c l hh he hlo hhi' h1 h2, ?_⟩
            have hf : fromPlace ⟨b', off * sz, bif Nat.beq ex 0 then some 0 else none⟩ l y.size c = ⟨b', (off + l) * sz, bif Nat.beq ex 0 then some 0 else none⟩ := by
              unfold fromPlace
              rw [hy.size]
              cases Nat.beq ex 0 with
              | true => show Addr.mk _ _ _ = _; rw [Nat.add_mul]; rfl
              | false =>
                show bf (Nat.beq c l) _ _ = _
                by_cases hcl : c = l
                · subst hcl
                  rw [Nat.beq_refl]
                  obtain rfl : c = 0 := by omega
                  rfl
                · rw [beq_ne hcl, Nat.add_mul]; rfl
            show VR E S Z j _ (.slice (some (fromPlace ⟨b', off * sz, bif Nat.beq ex 0 then some 0 else none⟩ l y.size c)) (Nat.sub hh l) (Nat.sub c l))
            rw [hf]
            exact .sl hj
      · cases h
    · rename_i nb b sz n
      split at h
      · rename_i l hh m sz' f' t' hl hhi hb
        cases hbt : Nat.beq t' elem with
        | false => rw [hbt] at h; cases h
        | true =>
          rw [hbt] at h
          cases h
          obtain rfl := beq_eq hbt
          have h1 := ho (l ≤ hh) (by simp)
          have h2 := ho (hh ≤ n) (by simp)
          have h3 := ho (l < n) (by simp)
          have h4 := ho (sz = esz) (by simp)
          subst h4
          have hlo := onat_ok hF hl
          have hhi' := onat_ok hF hhi
          cases hx with
          | accN => omega
          | accE => omega
          | accC hj =>
            rename_i n0 b'
            obtain ⟨b2, e1, vs, g, hc, _⟩ := hS.blk _ _ hb (fun h0 => by have h5 := ho (n0 + 1 = m) (by simp); have h0 : m = 0 := h0; omega)
            rw [hj] at e1; cases e1
            have he : elemOk S t' (some ⟨b', 0, some 0⟩) = true := by
              show Option.rec false (fun (c : List Value × TypeId) => Nat.beq c.2 t') (S.cells b') = true
              rw [hc]; exact Nat.beq_refl _
            refine ⟨_, key2 _ (n0 + 1) (n0 + 1) l hh he hlo hhi' h1 h2, ?_⟩
            have hf : fromPlace ⟨b', 0, some 0⟩ l y.size (n0 + 1) = ⟨b', l * sz, some 0⟩ := by
              unfold fromPlace
              rw [hy.size]
              show Addr.mk _ _ _ = _; rw [Nat.zero_add]
            show VR E S Z j _ (.slice (some (fromPlace ⟨b', 0, some 0⟩ l y.size (n0 + 1))) (Nat.sub hh l) (Nat.sub (n0 + 1) l))
            rw [hf]
            exact .sl hj
      · cases h
    · cases h
  · cases h
theorem isZ_ok {x : Option Operand} {d : Nat} (hF : FRR E S Z j F T) (h : isZ F x = true) : optNat T d x = some 0 ∧ ∃ y, x = some y ∧ ob (T.ev y) natOf = some 0 := by
  unfold isZ at h
  split at h
  · cases h
  · rename_i y
    split at h
    · rename_i ik ha
      obtain ⟨v, h1, h2⟩ := hF.ev ha
      cases h2 with
      | p h2 =>
        cases h2
        have : ob (T.ev y) natOf = some 0 := by rw [h1]; rfl
        exact ⟨this, y, rfl, this⟩
    · cases h
theorem vslice0_ok {t : Nat} {x z : AV} {lo hi mx : Option Operand} {obs : List Prop} {v : Value} (hT : TabOK E tb = true) (h : vslice0 tb F t x lo hi mx = some (obs, z)) (hS : SR E S Z j L) (hF : FRR E S Z j F T) (hx : VR E S Z j x v) :
    ∃ u, sliceL E t v T lo hi mx S = some u ∧ VR E S Z j z u := by
  unfold vslice0 at h
  split at h
  · rename_i sz ag elem esz zs hi0
    obtain ⟨i, hti⟩ := vt_ok hT hi0
    obtain ⟨hgs, y, hy⟩ := dOk_slice hti.d
    cases hb : (loZ F lo && (isZ F hi && isZ F mx)) with
    | false => rw [hb] at h; cases h
    | true =>
      rw [hb] at h
      simp only [cond_true] at h
      simp only [Bool.and_eq_true] at hb
      obtain ⟨b1, b2, b3⟩ := hb
      have hlo : optNat T 0 lo = some 0 := by
        cases lo with
        | none => rfl
        | some y => exact (isZ_ok (x := some y) hF b1).1
      obtain ⟨_, hh, rfl, hhv⟩ := isZ_ok (d := 0) hF b2
      obtain ⟨_, hm, rfl, hmv⟩ := isZ_ok (d := 0) hF b3
      have key : ∀ (a : Option Addr) (n c : Nat), elemOk S elem a = true → sliceL E t (.slice a n c) T lo (some hh) (some hm) S = some (Option.rec (.slice none 0 0) (fun a => .slice (some ⟨a.block, a.off + 0, none⟩) 0 0) a) := by
        intro a n c he
        obtain ⟨d, s1, b1, z1, p1, a1⟩ := i
        change d = _ at hgs
        subst hgs
        unfold sliceL
        rw [hti.get]
        show ob (E.ti.get elem) _ = _
        rw [hy.get]
        show gd (elemOk S elem a) (sliceE y a n c T lo (some hh) (some hm)) = _
        rw [he]
        show sliceE y a n c T lo (some hh) (some hm) = _
        unfold sliceE
        rw [hlo]
        show ob (ob (T.ev hh) natOf) _ = _
        rw [hhv]
        show gd (Nat.ble 0 0 && Nat.ble 0 c) (ob (ob (T.ev hm) natOf) _) = _
        rw [hmv]
        cases c <;> rfl
      split at h
      · cases h
        cases hx with
        | p hx => cases hx with
          | nil => exact ⟨_, key none 0 0 rfl, .p (.nil _ _)⟩
      · rename_i ty n f
        cases hx with
        | p hx => cases hx with
          | lst g hz hc hcap hoff hty hcut hp =>
            rename_i b o cap sz' sp cs t'
            cases hbt : Nat.beq ty elem with
            | false => rw [hbt] at h; cases h
            | true =>
              rw [hbt] at h
              cases h
              obtain rfl := beq_eq hbt
              have he : elemOk S ty (some ⟨b, o, sp⟩) = true := by
                cases sp with
                | none => rfl
                | some q =>
                  show Option.rec false (fun (c : List Value × TypeId) => Nat.beq c.2 ty) (S.cells b) = true
                  rcases hty with h | ⟨h, h'⟩
                  · cases h
                  · rw [← rdc_none (E := E) h', hc]; subst h; exact Nat.beq_refl _
              exact ⟨_, key _ _ _ he, .p (.emp hz hc hoff)⟩
      · cases h
  · cases h
theorem vlen_ok {t : Nat} {x z : AV} {obs : List Prop} {v : Value} (hT : TabOK E tb = true) (h : vlen tb L t x = some (obs, z)) (hx : VR E S Z j x v) : ∃ u, builtinL E .len [t] [v] S = some (u, S) ∧ VR E S Z j z u := by
  unfold vlen at h
  split at h
  · rename_i sz ag elem esz zs ty nb n f hi0
    obtain ⟨i, hti⟩ := vt_ok hT hi0
    cases h
    have key : ∀ a n c, builtinL E .len [t] [.slice a n c] S = some (.int .i64 (Int.ofNat n), S) := by
      intro a n c
      show ob (E.ti.get t) _ = _
      rw [hti.get]
      show ob (lenD i.desc _ S) _ = _
      rw [(dOk_slice hti.d).1]; rfl
    cases hx with
    | p hx => cases hx with
      | nil => exact ⟨_, key _ _ _, .p (.int _ _)⟩
      | lst => exact ⟨_, key _ _ _, .p (.int _ _)⟩
  · rename_i sz ag elem esz zs hi0
    obtain ⟨i, hti⟩ := vt_ok hT hi0
    cases h
    cases hx with
    | p hx => cases hx with
      | emp =>
        refine ⟨.int .i64 (Int.ofNat 0), ?_, .p (.int _ _)⟩
        show ob (E.ti.get t) _ = _
        rw [hti.get]
        show ob (lenD i.desc _ S) _ = _
        rw [(dOk_slice hti.d).1]; rfl
  · rename_i sz ag elem esz zs b sz2 off n c ex hi0
    obtain ⟨i, hti⟩ := vt_ok hT hi0
    cases h
    cases hx with
    | sl hj =>
      refine ⟨.int .i64 (Int.ofNat n), ?_, .p (.int _ _)⟩
      show ob (E.ti.get t) _ = _
      rw [hti.get]
      show ob (lenD i.desc _ S) _ = _
      rw [(dOk_slice hti.d).1]; rfl
  · rename_i sz ag elem esz zs nb b sz2 n hi0
    obtain ⟨i, hti⟩ := vt_ok hT hi0
    cases h
    refine ⟨.int .i64 (Int.ofNat n), ?_, .p (.int _ _)⟩
    show ob (E.ti.get t) _ = _
    rw [hti.get]
    show ob (lenD i.desc _ S) _ = _
    rw [(dOk_slice hti.d).1]
    cases hx <;> rfl
  · rename_i sz ag zs s hi0
    obtain ⟨i, hti⟩ := vt_ok hT hi0
    cases h
    cases hx with
    | p hx =>
      cases hx
      refine ⟨.int .i64 (Int.ofNat s.size), ?_, .p (.int _ _)⟩
      show ob (E.ti.get t) _ = _
      rw [hti.get]
      show ob (lenD i.desc _ S) _ = _
      rw [dOk_str hti.d]; rfl
  · cases h
theorem max_if (a b : Int) : (if b > a then b else a) = max a b := by omega
theorem min_if (a b : Int) : (if b < a then b else a) = min a b := by omega
theorem vcallP_ok {c : Call} {z : AV} {obs : List Prop} (hT : TabOK E tb = true) (h : vcallP tb F L c = some (obs, z)) (hF : FRR E S Z j F T) : ∃ u, (∀ cF dF, evOp E cF dF T S (.call c) = some (u, S)) ∧ VR E S Z j z u := by
  unfold vcallP at h
  split at h
  · rename_i t x hc ht ha
    obtain ⟨vs, h1, h2⟩ := hF.evs ha
    cases h2 with
    | cons hv hl =>
      cases hl
      obtain ⟨u, h3, h4⟩ := vlen_ok hT h hv
      refine ⟨u, fun cF dF => ?_, h4⟩
      show ob (T.evs c.args.toList) _ = _
      rw [h1, hc, ht]; exact h3
  · rename_i ts a b hc ha
    obtain ⟨vs, h1, h2⟩ := hF.evs ha
    cases h
    cases h2 with
    | cons hv hl => cases hl with
      | cons hw hl =>
        cases hl
        cases hv with
        | p hv => cases hv; cases hw with
          | p hw =>
            cases hw
            refine ⟨.int .i64 (max a b), fun cF dF => ?_, .p (.int _ _)⟩
            show ob (T.evs c.args.toList) _ = _
            rw [h1, hc]
            show some (Value.int .i64 (if b > a then b else a), S) = _
            rw [max_if]
  · rename_i ts a b hc ha
    obtain ⟨vs, h1, h2⟩ := hF.evs ha
    cases h
    cases h2 with
    | cons hv hl => cases hl with
      | cons hw hl =>
        cases hl
        cases hv with
        | p hv => cases hv; cases hw with
          | p hw =>
            cases hw
            refine ⟨.int .i64 (min a b), fun cF dF => ?_, .p (.int _ _)⟩
            show ob (T.evs c.args.toList) _ = _
            rw [h1, hc]
            show some (Value.int .i64 (if b < a then b else a), S) = _
            rw [min_if]
  · cases h
theorem vpickR_ok {c a b : Operand} {z : AV} {obs : List Prop} (h : vpickR F c a b = some (obs, z)) (hF : FRR E S Z j F T) : ∃ u, (∀ cF dF, evOp E cF dF T S (.pick c a b) = some (u, S)) ∧ VR E S Z j z u := by
  have key : ∀ (t : Bool) (u : Value), T.ev c = some (.bool t) → bf t (T.ev a) (T.ev b) = some u → ∀ cF dF, evOp E cF dF T S (.pick c a b) = some (u, S) := by
    intro t u h1 h2 cF dF
    show keepS S (ob (ob (T.ev c) boolOf) fun t => bf t (T.ev a) (T.ev b)) = _
    rw [h1]
    show keepS S (bf t (T.ev a) (T.ev b)) = _
    rw [h2]; rfl
  unfold vpickR at h
  split at h
  · rename_i hc
    obtain ⟨v, h1, h2⟩ := hF.evr hc
    cases h2
    obtain ⟨x, h3, h4⟩ := o1_some h; cases h4
    obtain ⟨u, h5, h6⟩ := hF.evr h3
    exact ⟨u, key true u h1 h5, h6⟩
  · rename_i hc
    obtain ⟨v, h1, h2⟩ := hF.evr hc
    cases h2
    obtain ⟨x, h3, h4⟩ := o1_some h; cases h4
    obtain ⟨u, h5, h6⟩ := hF.evr h3
    exact ⟨u, key false u h1 h5, h6⟩
  · obtain ⟨ac, h1, h2⟩ := o1_some h
    obtain ⟨aa, h3, h4⟩ := o1_some h2
    obtain ⟨ab, h5, h6⟩ := o1_some h4
    obtain ⟨vc, k1, k2⟩ := hF.ev h1
    obtain ⟨va, k3, k4⟩ := hF.ev h3
    obtain ⟨vb, k5, k6⟩ := hF.ev h5
    obtain ⟨t, rfl, h7⟩ := vpick_ok h6 k2 k4 k6
    refine ⟨bf t va vb, key t _ k1 ?_, h7⟩
    rw [k3, k5]
    cases t <;> rfl
theorem vunR_ok {op : UnOp} {t : TypeId} {x : Operand} {z : AV} {obs : List Prop} (h : vunR F op x = some (obs, z)) (ho : ∀ P ∈ obs, P) (hF : FRR E S Z j F T) : ∃ u, (∀ cF dF, evOp E cF dF T S (.unOp op t x) = some (u, S)) ∧ VR E S Z j z u := by
  unfold vunR at h
  split at h
  · rename_i b hb
    cases h
    obtain ⟨v, k1, k2⟩ := hF.evr hb
    cases k2
    refine ⟨.bool !b, fun cF dF => ?_, .lit _⟩
    show keepS S (ob (T.ev x) fun a => unL .not a) = _
    rw [k1]; rfl
  · obtain ⟨a, h1, h2⟩ := o1_some h
    obtain ⟨v, k1, k2⟩ := hF.ev h1
    obtain ⟨u, h5, h6⟩ := vun_ok h2 ho k2
    refine ⟨u, fun cF dF => ?_, h6⟩
    show keepS S (ob (T.ev x) fun a => unL _ a) = _
    rw [k1]
    show keepS S (unL _ v) = _
    rw [h5]; rfl
theorem acells_ok {a : AV} {l : List AV} {v : Value} (h : acells a = some l) (hv : VR E S Z j a v) : VRs E S Z j l v.cells.toList ∧ v.cells.toList.all scalar = true := by
  cases a with
  | agg cs => cases h; cases hv with | agg hs hv => exact ⟨hv, hs⟩
  | tup vs => cases h
  | junk => cases h
  | _ =>
    cases h
    have hs := hv.scalar rfl
    have : v.cells = #[v] := by cases v <;> first | rfl | cases hs
    rw [this]
    exact ⟨.cons hv .nil, by simp [hs]⟩
theorem vpaste_ok {cs vs r : List AV} {off : Nat} {ws us : List Value} (h : vpaste cs off vs = some r) (hc : VRs E S Z j cs ws) (hv : VRs E S Z j vs us) (hs1 : ws.all scalar = true) (hs2 : us.all scalar = true) : ∃ q, paste ws off us = some q ∧ VRs E S Z j r q ∧ q.all scalar = true ∧ q.length = ws.length := by
  unfold vpaste at h
  cases hb : Nat.ble (off + vs.length) cs.length with
  | false => rw [hb] at h; cases h
  | true =>
    rw [hb] at h; cases h
    have hle := ble_le hb
    rw [hc.length, hv.length] at hle
    refine ⟨ws.take off ++ us ++ ws.drop (off + us.length), ?_, ?_, ?_, ?_⟩
    · unfold paste
      rw [show Nat.ble (Nat.add off us.length) ws.length = true from ble_t hle]; rfl
    · rw [hv.length]
      exact ((hc.take off).append hv).append (hc.drop _)
    · simp only [List.all_append, hs2, all_take hs1, all_drop hs1, Bool.and_self]
    · simp; omega
theorem vparts_ok (hF : FRR E S Z j F T) : ∀ {ps : List (Nat × Operand)} {l : List (Nat × AV)}, vparts F ps = some l → ∃ vs, evParts T ps = some vs ∧ l.map (·.1) = vs.map (·.1) ∧ VRs E S Z j (l.map (·.2)) (vs.map (·.2))
  | [], l, h => by cases h; exact ⟨[], rfl, rfl, .nil⟩
  | p :: ps, l, h => by
    simp only [vparts] at h
    split at h
    · rename_i a l0 ha hl
      cases h
      obtain ⟨v, h1, h2⟩ := hF.ev ha
      obtain ⟨vs, h3, h4, h5⟩ := vparts_ok hF hl
      refine ⟨(p.1, v) :: vs, ?_, by simp [h4], .cons h2 h5⟩
      show ob (T.ev p.2) _ = _
      rw [h1]
      show ob (evParts T ps) _ = _
      rw [h3]; rfl
    · cases h
theorem vfill_ok {place place' : Nat → Option (Nat × Nat)} (hp : ∀ i q, place i = some q → place' i = some q) : ∀ {l : List (Nat × AV)} {vs : List (Nat × Value)} {cs r : List AV} {ws : List Value}, vfill place cs l = some r → l.map (·.1) = vs.map (·.1) → VRs E S Z j (l.map (·.2)) (vs.map (·.2)) → VRs E S Z j cs ws → ws.all scalar = true →
    ∃ q, fillL place' ws vs = some q ∧ VRs E S Z j r q ∧ q.all scalar = true ∧ q.length = ws.length
  | [], [], cs, r, ws, h, _, _, hc, hs => by cases h; exact ⟨ws, rfl, hc, hs, rfl⟩
  | [], _ :: _, _, _, _, _, h, _, _, _ => by simp at h
  | _ :: _, [], _, _, _, _, h, _, _, _ => by simp at h
  | p :: l, v :: vs, cs, r, ws, h, hm, hv, hc, hs => by
    simp only [List.map_cons, List.cons.injEq] at hm
    cases hv with
    | cons hv hvs =>
      simp only [vfill] at h
      split at h
      · rename_i q cl hq hcl
        obtain ⟨h1, h2⟩ := acells_ok hcl hv
        cases hb : Nat.beq cl.length q.2 with
        | false => rw [hb] at h; cases h
        | true =>
          rw [hb] at h
          simp only [cond_true] at h
          split at h
          · rename_i c hpc
            obtain ⟨q1, h3, h4, h5, h6⟩ := vpaste_ok hpc hc h1 hs h2
            obtain ⟨q2, h7, h8, h9, h10⟩ := vfill_ok hp h hm.2 hvs h4 h5
            refine ⟨q2, ?_, h8, h9, h10.trans h6⟩
            unfold fillL
            rw [← hm.1, hp _ _ hq]
            show gd (Nat.beq v.2.cells.size q.2) (ob (paste ws q.1 v.2.cells.toList) _) = _
            rw [show Nat.beq v.2.cells.size q.2 = true by rw [← Array.length_toList, ← h1.length]; exact hb, h3]
            exact h7
          · cases h
      · cases h
theorem vbuild_ok {t : Nat} {parts : Array (Nat × Operand)} {z : AV} {obs : List Prop} (hT : TabOK E tb = true) (h : vbuild tb F t parts.toList = some (obs, z)) (hF : FRR E S Z j F T) : ∃ u, (∀ cF dF, evOp E cF dF T S (.build t parts) = some (u, S)) ∧ VR E S Z j z u := by
  unfold vbuild at h
  split at h
  · rename_i sz ag ints fs zs ps hi0 hps
    obtain ⟨i, hti⟩ := vt_ok hT hi0
    obtain ⟨gs, hgs, hf, _⟩ := dOk_struct hti.d
    split at h
    · rename_i c hc
      cases h
      obtain ⟨vs, h1, h2, h3⟩ := vparts_ok hF hps
      have hz := zOks_prs (E := E) (S := S) (Z := Z) hti.zero
      have hpl : ∀ i q, vplace fs i = some q → placesL E gs i = some q := by
        intro i q hq
        unfold vplace at hq
        split at hq
        · rename_i q0 hq0
          cases hq
          obtain ⟨g, y, k1, k2, k3, k4, _⟩ := fields_ok hf hq0
          unfold placesL
          rw [k1]
          show ob (E.ti.get g.type) _ = _
          rw [k3, ← k2, ← k4]; rfl
        · cases hq
      obtain ⟨q, h4, h5, h6, _⟩ := vfill_ok hpl hc h2 h3 (hz.toV (j := j)) hz.scalars
      refine ⟨.agg q.toArray, fun cF dF => ?_, .agg h6 h5⟩
      obtain ⟨d, s1, b1, z1, p1, a1⟩ := i
      change d = _ at hgs
      subst hgs
      show keepS S (ob (E.ti.get t) _) = _
      rw [hti.get]
      show keepS S (ob (evParts T parts.toList) _) = _
      rw [h1]
      show keepS S (ob (fillL (placesL E gs) z1.cells.toList vs) _) = _
      rw [h4]; rfl
    · cases h
  · cases h
theorem findL_enc (k : Int) : ∀ (l : List (Int × Int)) (i : Nat), ∃ r, findL (.int .i64 k) (encM l) i = some r ∧ r.map (·.2) = (mget k l).map (Value.int .i64)
  | [], i => ⟨none, rfl, rfl⟩
  | p :: l, i => by
    have e : findL (.int .i64 k) (encM (p :: l)) i = bf (k == p.1) (some (some (i, .int .i64 p.2))) (findL (.int .i64 k) (encM l) (i + 1)) := rfl
    rw [e]
    unfold mget
    cases k == p.1 with
    | true => exact ⟨_, rfl, rfl⟩
    | false => exact findL_enc k l (i + 1)
theorem dOk_mapI {i : LTy} (h : dOk E i .mapI = true) : ∃ k e x y, i.desc = .map k e ∧ E.ti.get k = some x ∧ x.desc = .int .i64 ∧ E.ti.get e = some y ∧ y.zero = .int .i64 0 := by
  unfold dOk at h
  simp only at h
  split at h
  · rename_i k e hd
    simp only [Bool.and_eq_true] at h
    obtain ⟨h1, h2⟩ := h
    unfold kOk at h1
    unfold zOk64 at h2
    cases hk : E.ti.get k with
    | none => rw [hk] at h1; cases h1
    | some x =>
      cases he : E.ti.get e with
      | none => rw [he] at h2; cases h2
      | some y =>
        rw [hk] at h1
        rw [he] at h2
        have h1 : isI64 x.desc = true := h1
        have h2 : isZ64 y.zero = true := h2
        refine ⟨k, e, x, y, hd, hk, ?_, he, ?_⟩
        · unfold isI64 at h1
          split at h1
          · assumption
          · cases h1
        · unfold isZ64 at h2
          split at h2
          · rename_i n hz; rw [hz, of_decide_eq_true h2]
          · cases h2
  · cases h
theorem vlookup_ok {t : Nat} {x k z : AV} {ok : Bool} {obs : List Prop} {v w : Value} (hT : TabOK E tb = true) (h : vlookup tb L t x k ok = some (obs, z)) (hS : SR E S Z j L) (hx : VR E S Z j x v) (hk : VR E S Z j k w) : ∃ u, lookupL E t v w ok S = some u ∧ VR E S Z j z u := by
  unfold vlookup at h
  split at h
  · rename_i sz ag zs b q hi0
    obtain ⟨i, hti⟩ := vt_ok hT hi0
    obtain ⟨kt, et, xk, xe, hd, hgk, hdk, hge, hz⟩ := dOk_mapI hti.d
    split at h
    · rename_i f hb
      cases hx with
      | map hj =>
        rename_i b'
        obtain ⟨b2, h1, l, h2, h3⟩ := hS.blk _ _ hb id
        obtain rfl : b' = b2 := Option.some.inj (hj.symm.trans h1)
        cases hk with
        | p hk =>
          cases hk
          obtain ⟨r, h4, h5⟩ := findL_enc q l 0
          have e1 : (r.map (·.2)).getD xe.zero = .int .i64 ((f q).getD 0) := by
            rw [h5, h3, hz]
            cases f q <;> rfl
          have e2 : r.isSome = (f q).isSome := by
            have := congrArg Option.isSome h5
            rw [h3] at this
            simpa using this
          have e : lookupL E t (.map (some b')) (.int .i64 q) ok S = some (bf ok (.tuple #[.int .i64 ((f q).getD 0), .bool (f q).isSome]) (.int .i64 ((f q).getD 0))) := by
            unfold lookupL
            rw [hti.get]
            show ob (mapD i.desc) _ = _
            rw [hd]
            show ob (E.ti.get kt) _ = _
            rw [hgk]
            show ob (E.ti.get et) _ = _
            rw [hge]
            show ob (ob (S.heap.get b') mapO) _ = _
            rw [h2]
            show gd (keyKind xk.desc _) (ob (findL (.int .i64 q) (encM l) 0) _) = _
            rw [hdk, h4]
            show some (bf ok (.tuple #[(r.map (·.2)).getD xe.zero, .bool r.isSome]) ((r.map (·.2)).getD xe.zero)) = _
            rw [e1, e2]
          refine ⟨_, e, ?_⟩
          cases ok with
          | true => cases h; exact .tup (.cons (.p (.int _ _)) (.cons (.p (.bool _)) .nil))
          | false => cases h; exact .p (.int _ _)
    · cases h
  · cases h
theorem vopP_ok {o : Op} {z : AV} {obs : List Prop} (hT : TabOK E tb = true) (h : vopP tb F L o = some (obs, z)) (ho : ∀ P ∈ obs, P) (hS : SR E S Z j L) (hF : FRR E S Z j F T) : ∃ u, (∀ cF dF, evOp E cF dF T S o = some (u, S)) ∧ VR E S Z j z u := by
  cases o with
  | move x =>
    obtain ⟨a, h1, h2⟩ := o1_some h; cases h2
    obtain ⟨v, h3, h4⟩ := hF.evr h1
    exact ⟨v, fun cF dF => by show keepS S (T.ev x) = _; rw [h3]; rfl, h4⟩
  | assign x =>
    obtain ⟨a, h1, h2⟩ := o1_some h; cases h2
    obtain ⟨v, h3, h4⟩ := hF.evr h1
    exact ⟨v, fun cF dF => by show keepS S (T.ev x) = _; rw [h3]; rfl, h4⟩
  | pick c a b => exact vpickR_ok h hF
  | load t a =>
    obtain ⟨x, h1, h2⟩ := o1_some h
    obtain ⟨v, h3, h4⟩ := hF.ev h1
    obtain ⟨p, u, rfl, h5, h6⟩ := vload_ok hT h2 ho hS h4
    refine ⟨u, fun cF dF => ?_, h6⟩
    show keepS S (ob (ob (T.ev a) addrOf) fun p => loadVarL E t p S) = _
    rw [h3]
    show keepS S (loadVarL E t p S) = _
    rw [h5]; rfl
  | nilCheck x =>
    obtain ⟨a, h1, h2⟩ := o1_some h
    obtain ⟨v, h3, h4⟩ := hF.ev h1
    obtain ⟨h5, h6⟩ := vnil_ok h2 h4
    exact ⟨v, fun cF dF => by show keepS S (ob (T.ev x) checkedV) = _; rw [h3]; show keepS S (checkedV v) = _; rw [h5]; rfl, h6⟩
  | build t parts => exact vbuild_ok hT h hF
  | binOp op t x y g =>
    obtain ⟨a, h1, h2⟩ := o1_some h
    obtain ⟨b, h3, h4⟩ := o1_some h2
    obtain ⟨v, k1, k2⟩ := hF.ev h1
    obtain ⟨w, k3, k4⟩ := hF.ev h3
    obtain ⟨u, h5, h6⟩ := vbinop_ok hT h4 ho k2 k4
    refine ⟨u, fun cF dF => ?_, h6⟩
    show keepS S (ob (T.ev x) fun a => ob (T.ev y) fun b => binL E op t a b) = _
    rw [k1, k3]
    show keepS S (binL E op t v w) = _
    rw [h5]; rfl
  | unOp op t x => exact vunR_ok h ho hF
  | convert src dst x =>
    obtain ⟨a, h1, h2⟩ := o1_some h
    obtain ⟨v, k1, k2⟩ := hF.ev h1
    obtain ⟨i, k, u, h3, h4, h5, h6⟩ := vconv_ok hT h2 ho k2
    refine ⟨u, fun cF dF => ?_, h6⟩
    show keepS S (ob (E.ti.get src) fun _ => ob (T.ev x) fun a => ob (E.ti.get dst) fun i => convD i.desc a) = _
    rw [h3, k1, h4]
    show keepS S (convD k.desc v) = _
    rw [h5]; rfl
  | makeFunc fn first cap =>
    cases fn with
    | func f =>
      simp only [vopP] at h
      split at h
      · rename_i a b ha hb
        cases h
        obtain ⟨va, k1, k2⟩ := hF.evs ha
        obtain ⟨vb, k3, k4⟩ := hF.evs hb
        refine ⟨.func (.func f) va.toArray vb.toArray, fun cF dF => ?_, .fn k2 k4⟩
        show keepS S (ob (T.evs first.toList) _) = _
        rw [k1]
        show keepS S (ob (T.evs cap.toList) _) = _
        rw [k3]; rfl
      · cases h
    | _ => cases h
  | slice t x lo hi mx =>
    obtain ⟨a, h1, h2⟩ := o1_some h
    obtain ⟨v, k1, k2⟩ := hF.ev h1
    have : ∃ u, sliceL E t v T lo hi mx S = some u ∧ VR E S Z j z u := by
      cases mx with
      | none => exact vslice_ok hT h2 ho hS hF k2
      | some m => exact vslice0_ok hT h2 hS hF k2
    obtain ⟨u, h5, h6⟩ := this
    refine ⟨u, fun cF dF => ?_, h6⟩
    show keepS S (ob (T.ev x) fun v => sliceL E t v T lo hi mx S) = _
    rw [k1]
    show keepS S (sliceL E t v T lo hi mx S) = _
    rw [h5]; rfl
  | fieldAddr t x f =>
    obtain ⟨a, h1, h2⟩ := o1_some h
    obtain ⟨v, k1, k2⟩ := hF.ev h1
    obtain ⟨u, h5, h6⟩ := vfieldAddr_ok hT h2 k2
    refine ⟨u, fun cF dF => ?_, h6⟩
    show keepS S (ob (T.ev x) fun v => fieldAddrL E t v f) = _
    rw [k1]
    show keepS S (fieldAddrL E t v f) = _
    rw [h5]; rfl
  | field t x f =>
    obtain ⟨a, h1, h2⟩ := o1_some h
    obtain ⟨v, k1, k2⟩ := hF.ev h1
    obtain ⟨u, h5, h6⟩ := vfield_ok hT h2 k2
    refine ⟨u, fun cF dF => ?_, h6⟩
    show keepS S (ob (T.ev x) fun v => fieldL E t v f) = _
    rw [k1]
    show keepS S (fieldL E t v f) = _
    rw [h5]; rfl
  | indexAddr t x i =>
    obtain ⟨a, h1, h2⟩ := o1_some h
    obtain ⟨b, h3, h4⟩ := o1_some h2
    obtain ⟨v, k1, k2⟩ := hF.ev h1
    obtain ⟨w, k3, k4⟩ := hF.ev h3
    obtain ⟨u, h5, h6⟩ := vindexAddr_ok hT h4 ho k2 k4
    refine ⟨u, fun cF dF => ?_, h6⟩
    show keepS S (ob (T.ev x) fun v => ob (T.ev i) fun i => indexAddrL E t v i) = _
    rw [k1, k3]
    show keepS S (indexAddrL E t v w) = _
    rw [h5]; rfl
  | index t x i =>
    obtain ⟨a, h1, h2⟩ := o1_some h
    obtain ⟨b, h3, h4⟩ := o1_some h2
    obtain ⟨v, k1, k2⟩ := hF.ev h1
    obtain ⟨w, k3, k4⟩ := hF.ev h3
    obtain ⟨u, h5, h6⟩ := vindex_ok hT h4 ho k2 k4
    refine ⟨u, fun cF dF => ?_, h6⟩
    show keepS S (ob (T.ev x) fun v => ob (T.ev i) fun i => indexL E t v i) = _
    rw [k1, k3]
    show keepS S (indexL E t v w) = _
    rw [h5]; rfl
  | lookup t x k ok =>
    obtain ⟨a, h1, h2⟩ := o1_some h
    obtain ⟨b, h3, h4⟩ := o1_some h2
    obtain ⟨v, k1, k2⟩ := hF.ev h1
    obtain ⟨w, k3, k4⟩ := hF.ev h3
    obtain ⟨u, h5, h6⟩ := vlookup_ok hT h4 hS k2 k4
    refine ⟨u, fun cF dF => ?_, h6⟩
    show keepS S (ob (T.ev x) fun m => ob (T.ev k) fun i => lookupL E t m i ok S) = _
    rw [k1, k3]
    show keepS S (lookupL E t v w ok S) = _
    rw [h5]; rfl
  | extract x i =>
    obtain ⟨a, h1, h2⟩ := o1_some h
    obtain ⟨v, k1, k2⟩ := hF.ev h1
    obtain ⟨vs, u, rfl, h5, h6⟩ := vextract_ok h2 k2
    refine ⟨u, fun cF dF => ?_, h6⟩
    show keepS S (ob (T.ev x) _) = _
    rw [k1]
    show keepS S (vs.toList[i]?) = _
    rw [h5]; rfl
  | call c => exact vcallP_ok hT h hF
  | _ => cases h
end
end Go.Proofs.YtncpeobcgmkkbaaGreat
/- Operations that make or write memory, as a walk sees them. -/
namespace Go.Proofs.YtncpeobcgmkkbaaGreat
noncomputable section

def nx : VS → Nat
  | [] => 0
  | (i, _) :: l => bif Nat.ble (nx l) i then i + 1 else nx l
def up : VS → Nat → VB → VS
  | [], _, _ => []
  | (s, v) :: l, i, w => bif Nat.beq s i then (s, w) :: l else (s, v) :: up l i w
def rm : VS → Nat → VS
  | [], _ => []
  | (s, v) :: l, i => bif Nat.beq s i then rm l i else (s, v) :: rm l i
def unp : List AV → Option (List PV)
  | [] => some []
  | .p x :: l => match unp l with
    | some r => some (x :: r)
    | none => none
  | _ :: _ => none
def notId (b i : Nat) : Bool := !Nat.beq i b
def purge1 (b : Nat) (a : AV) : AV := bif a.only (notId b) then a else .junk
def purgeL (b : Nat) : List AV → List AV
  | [] => []
  | a :: l => purge1 b a :: purgeL b l
def purgeA (b : Nat) (a : AV) : AV := match a with
  | .p x => .p x
  | .agg cs => .agg (purgeL b cs)
  | .tup cs => .tup (purgeL b cs)
  | a => purge1 b a
def purgeF (b : Nat) : VK → VK
  | [] => []
  | (t, a) :: l => (t, purgeA b a) :: purgeF b l
def purgeB (b : Nat) : VB → VB
  | .cells cs t => .cells (purgeL b cs) t
  | .arr n sz f t => .arr n sz f t
  | .loop st pd G N ps asg body => .loop st pd (purgeF b G) N ps asg body
  | .acc n sz f t => .acc n sz f t
  | .mapI f => .mapI f
def purgeS (b : Nat) : VS → VS
  | [] => []
  | (i, v) :: l => (i, purgeB b v) :: purgeS b l
/-- kind: 0: made, nothing written; 1: one block written; 2: something else. -/
structure VOut where
  ob : List Prop
  F : VK
  a : AV
  L : VS
  kind : Nat
  at_ : Nat
def valloc (tb : Tab) (F : VK) (L : VS) (q0 : Nat) (t : Nat) : Option VOut := match tget tb t with
  | some i => some ⟨[], F, .ref (q0) 0, (q0, .cells (i.zero.map .p) t) :: L, 0, 0⟩
  | none => none
def vbox (F : VK) (L : VS) (q0 : Nat) (t : Nat) (x : AV) : Option VOut := match acells x with
  | some cs => some ⟨[], F, .ref (q0) 0, (q0, .cells cs t) :: L, 0, 0⟩
  | none => none
def vzeros (z : List PV) : Nat → List PV
  | 0 => []
  | n + 1 => z ++ vzeros z n
def vbuildSlice (tb : Tab) (F : VK) (L : VS) (q0 : Nat) (t len : Nat) (parts : List (Nat × Operand)) : Option VOut := match tget tb t with
  | some ⟨_, _, .slice elem esz, _⟩ => match tget tb elem, vparts F parts with
    | some e, some ps => bif Nat.ble (len * esz) 16777216 then (match vfill (fun i => some (i * esz, esz)) ((vzeros e.zero len).map .p) ps with
      | some c => match unp c with
        | some l => match len with
          | 0 => some ⟨[], F, .sl (q0) esz 0 0 0 2, (q0, .arr 0 esz (fun _ => []) elem) :: L, 0, 0⟩
          | _ + 1 => some ⟨[], F, .p (.lst elem false len fun k => (l.drop (k * esz)).take esz), L, 0, 0⟩
        | none => none
      | none => none) else none
    | _, _ => none
  | _ => none
def vmakeSlice (tb : Tab) (F : VK) (L : VS) (q0 : Nat) (t : Nat) (x y : AV) : Option VOut := match tget tb t, x, y with
  | some ⟨_, _, .slice elem esz, _⟩, .p (.int _ (.ofNat n)), .p (.int _ (.ofNat c)) => match tget tb elem with
    | some e => some ⟨[n ≤ c, c ≤ 1048576], F, .sl (q0) esz 0 n c 1, (q0, .arr c esz (fun _ => e.zero) elem) :: L, 0, 0⟩
    | none => none
  | _, _, _ => none
def ppaste (cs : List PV) (off : Nat) (vs : List PV) : List PV := cs.take off ++ vs ++ cs.drop (off + vs.length)
def vstore (tb : Tab) (F : VK) (L : VS) (t : Nat) (a x : AV) : Option VOut := match tget tb t, acells x with
  | some i, some l => bif Nat.beq l.length i.size then (match a with
    | .ref b off => match bk L b with
      | some (.cells cs ty) => match vpaste cs off l with
        | some c => some ⟨[], F, .junk, up L b (.cells c ty), 1, b⟩
        | none => none
      | _ => none
    | .el b sz k off => match bk L b, unp l with
      | some (.arr n sz' f ty), some q => some ⟨[k < n, sz = sz', off + q.length ≤ sz], F, .junk, up L b (.arr n sz' (fun i => bif Nat.beq i k then ppaste (f k) off q else f i) ty), 1, b⟩
      | some (.acc n sz' f ty), some q => some ⟨[k < n, sz = sz', off + q.length ≤ sz], F, .junk, up L b (.acc n sz' (fun i => bif Nat.beq i k then ppaste (f k) off q else f i) ty), 1, b⟩
      | _, _ => none
    | _ => none) else none
  | _, _ => none
def isSl : AV → Bool
  | .p (.lst _ _ _ _) => true
  | .p .emp => true
  | .sl _ _ _ _ _ _ => true
  | .acc _ _ _ _ => true
  | _ => false
/-- append of k elements, to nil, or in memory of the call's own; z: k is 0. -/
def vappend (tb : Tab) (F : VK) (L : VS) (q0 : Nat) (z : Bool) (t u : Nat) (s x : AV) : Option VOut := match tget tb t, tget tb u, x with
  | some ⟨_, _, .slice elem esz, _⟩, some ⟨_, _, .slice _ _, _⟩, .p (.lst _ _ k f) => bif z then (bif isSl s then some ⟨[k = 0], F, s, L, 0, 0⟩ else none) else (match s with
    | .p (.lst _ true 0 _) => some ⟨[0 < k, k ≤ 1048576, ∀ i, i < k → (f i).length = esz], F, .sl (q0) esz 0 k k 0, (q0, .arr k esz f elem) :: L, 0, 0⟩
    | .p .emp => some ⟨[0 < k, k ≤ 1048576, ∀ i, i < k → (f i).length = esz], F, .sl (q0) esz 0 k k 0, (q0, .arr k esz f elem) :: L, 0, 0⟩
    | .sl b sz off n c ex => match bk L b with
      | some (.arr m sz' g t') => bif Nat.beq ex 1 then
          some ⟨[0 < k, n + k ≤ 1048576, ∀ i, i < k → (f i).length = esz, sz = esz, sz' = esz, n + k ≤ c, off + n + k ≤ m], F, .sl b sz off (n + k) c ex, up L b (.arr m sz' (fun i => bif Nat.ble (off + n) i && Nat.blt i (off + n + k) then f (i - (off + n)) else g i) t'), 1, b⟩
        else bif Nat.beq t' elem then
          some ⟨[0 < k, n + k ≤ 1048576, ∀ i, i < k → (f i).length = esz, sz = esz, sz' = esz, c < n + k, off + n ≤ m], purgeF b F, .sl (q0) esz 0 (n + k) (n + k) 0,
            (q0, .arr (n + k) esz (fun i => bif Nat.blt i n then g (off + i) else f (i - n)) elem) :: purgeS b (rm L b), 2, b⟩
        else none
      | _ => none
    | .acc nb b sz n => match bk L b with
      | some (.acc m sz' g t') => bif Nat.beq t' elem then
          some ⟨[0 < k, n + k ≤ 1048576, ∀ i, i < k → (f i).length = esz, sz = esz, sz' = esz, n = m], purgeF b F, .acc true q0 esz (n + k),
            (q0, .acc (n + k) esz (fun i => bif Nat.blt i n then g i else f (i - n)) elem) :: purgeS b (rm L b), 2, b⟩
        else none
      | _ => none
    | _ => none)
  | _, _, _ => none
/-- clear of elements of the call's own. -/
def vclear (tb : Tab) (F : VK) (L : VS) (q0 : Nat) (t : Nat) (s : AV) : Option VOut := match tget tb t, s with
  | some ⟨_, _, .slice elem esz, _⟩, .sl b sz off n _ _ => match tget tb elem, bk L b with
    | some e, some (.arr m sz' g t') => some ⟨[off + n ≤ m, sz = esz, sz' = esz], F, .tup [], up L b (.arr m sz' (fun i => bif Nat.ble off i && Nat.blt i (off + n) then e.zero else g i) t'), 2, q0⟩
    | _, _ => none
  | _, _ => none
def vmakeMap (tb : Tab) (F : VK) (L : VS) (q0 : Nat) (t : Nat) : Option VOut := match tget tb t with
  | some ⟨_, _, .mapI, _⟩ => some ⟨[], F, .map q0, (q0, .mapI fun _ => none) :: L, 0, 0⟩
  | _ => none
def vmapUpd (tb : Tab) (F : VK) (L : VS) (t : Nat) (m k v : AV) : Option VOut := match tget tb t, m, k, v with
  | some ⟨_, _, .mapI, _⟩, .map i, .p (.int .i64 a), .p (.int .i64 b) => match bk L i with
    | some (.mapI f) => some ⟨[], F, .junk, up L i (.mapI fun q => bif q == a then some b else f q), 1, i⟩
    | _ => none
  | _, _, _, _ => none
def forceN {α : Type} (n : Nat) (k : Nat → α) : α := bif Nat.beq n 0 then k 0 else bif Nat.beq n 1 then k 1 else bif Nat.beq n 2 then k 2 else bif Nat.beq n 3 then k 3 else bif Nat.beq n 4 then k 4 else bif Nat.beq n 5 then k 5 else bif Nat.beq n 6 then k 6 else bif Nat.beq n 7 then k 7 else bif Nat.beq n 8 then k 8 else bif Nat.beq n 9 then k 9 else bif Nat.beq n 10 then k 10 else bif Nat.beq n 11 then k 11 else bif Nat.beq n 12 then k 12 else bif Nat.beq n 13 then k 13 else bif Nat.beq n 14 then k 14 else bif Nat.beq n 15 then k 15 else bif Nat.beq n 16 then k 16 else bif Nat.beq n 17 then k 17 else bif Nat.beq n 18 then k 18 else bif Nat.beq n 19 then k 19 else k n
theorem bif_eq {α : Type} {n m : Nat} {x y z : α} (h1 : n = m → x = z) (h2 : y = z) : (bif Nat.beq n m then x else y) = z := by
  cases hb : Nat.beq n m with
  | true => exact h1 (beq_eq hb)
  | false => exact h2
theorem forceN_eq {α : Type} (n : Nat) (k : Nat → α) : forceN n k = k n := by
  unfold forceN
  iterate 20
    refine bif_eq (fun e => by subst e; rfl) ?_
  rfl
def vopS (tb : Tab) (F : VK) (L : VS) (z : Bool) : Op → Option VOut
  | .alloc t => forceN (nx L) fun q => valloc tb F L q t
  | .box t x => match av F x with
    | some a => forceN (nx L) fun q => vbox F L q t a
    | none => none
  | .buildSlice t len parts => forceN (nx L) fun q => vbuildSlice tb F L q t len parts.toList
  | .makeSlice t x y => match av F x, av F y with
    | some a, some b => forceN (nx L) fun q => vmakeSlice tb F L q t a b
    | _, _ => none
  | .store t a x => match av F a, av F x with
    | some a, some b => vstore tb F L t a b
    | _, _ => none
  | .makeMap t none => forceN (nx L) fun q => vmakeMap tb F L q t
  | .mapUpdate t m k v => match av F m, av F k, av F v with
    | some a, some b, some c => vmapUpd tb F L t a b c
    | _, _, _ => none
  | .call c => match c.callee, c.argTypes.toList, avs F c.args.toList with
    | .builtin .append, [t, u], some [s, x] => forceN (nx L) fun q => vappend tb F L q z t u s x
    | .builtin .clear, [t], some [s] => forceN (nx L) fun q => vclear tb F L q t s
    | _, _, _ => none
  | _ => none

theorem nx_lt : ∀ {L : VS} {i : Nat} {v : VB}, bk L i = some v → i < nx L
  | [], i, v, h => by cases h
  | (s, w) :: l, i, v, h => by
    simp only [bk] at h
    have hs : s < nx ((s, w) :: l) := by
      simp only [nx]
      cases hb : Nat.ble (nx l) s with
      | true => simp
      | false =>
        have : ¬ nx l ≤ s := fun hle => by rw [ble_t hle] at hb; cases hb
        simp; omega
    by_cases e : s = i
    · rw [← e]; exact hs
    · rw [show Nat.beq s i = false by rw [Tr.beq_def]; simpa using e] at h
      have h1 := nx_lt (L := l) h
      simp only [nx]
      cases hb : Nat.ble (nx l) s with
      | true => have := ble_le hb; simp; omega
      | false => simpa using h1
theorem bk_nx (L : VS) : bk L (nx L) = none := by
  cases h : bk L (nx L) with
  | none => rfl
  | some v => exact absurd (nx_lt h) (Nat.lt_irrefl _)
theorem bk_cons {i k : Nat} {v : VB} {L : VS} : bk ((i, v) :: L) k = if k = i then some v else bk L k := by
  simp only [bk, Tr.beq_def]
  by_cases e : i = k
  · subst e; simp
  · simp [e, show ¬ k = i from fun h => e h.symm]
theorem bk_up : ∀ {L : VS} {i : Nat} {v w : VB}, bk L i = some w → ∀ k, bk (up L i v) k = if k = i then some v else bk L k
  | [], i, v, w, h, k => by cases h
  | (s, x) :: l, i, v, w, h, k => by
    simp only [bk, up] at h ⊢
    by_cases e : s = i
    · subst e
      simp only [Nat.beq_refl, cond_true]
      rw [bk_cons]
      by_cases e2 : k = s
      · simp [e2]
      · rw [if_neg e2, if_neg e2, show Nat.beq s k = false by rw [Tr.beq_def]; simpa using fun h => e2 h.symm]; rfl
    · rw [show Nat.beq s i = false by rw [Tr.beq_def]; simpa using e] at h ⊢
      simp only [cond_false] at h ⊢
      rw [bk_cons]
      by_cases e2 : k = s
      · subst e2; simp [e]
      · rw [if_neg e2, bk_up h k, show Nat.beq s k = false by rw [Tr.beq_def]; simpa using fun h => e2 h.symm]; rfl
theorem bk_rm : ∀ {L : VS} {i k : Nat}, bk (rm L i) k = if k = i then none else bk L k
  | [], i, k => by simp [rm, bk]
  | (s, x) :: l, i, k => by
    simp only [rm]
    by_cases e : s = i
    · subst e
      simp only [Nat.beq_refl, cond_true]
      rw [bk_rm, bk_cons]
      by_cases e2 : k = s
      · simp [e2]
      · simp [e2]
    · rw [show Nat.beq s i = false by rw [Tr.beq_def]; simpa using e]
      simp only [cond_false]
      rw [bk_cons, bk_cons, bk_rm]
      by_cases e2 : k = s
      · subst e2; simp [e]
      · simp [e2]
theorem bk_purgeS {b : Nat} : ∀ {L : VS} {k : Nat} {v : VB}, bk (purgeS b L) k = some v → ∃ w, bk L k = some w ∧ v = purgeB b w
  | [], k, v, h => by cases h
  | (s, x) :: l, k, v, h => by
    simp only [purgeS, bk] at h ⊢
    by_cases e : s = k
    · subst e
      simp only [Nat.beq_refl, cond_true] at h ⊢
      cases h; exact ⟨x, rfl, rfl⟩
    · rw [show Nat.beq s k = false by rw [Tr.beq_def]; simpa using e] at h ⊢
      exact bk_purgeS h
theorem bk_purgeS_none {b : Nat} : ∀ {L : VS} {k : Nat}, bk (purgeS b L) k = none → bk L k = none
  | [], k, h => rfl
  | (s, x) :: l, k, h => by
    simp only [purgeS, bk] at h ⊢
    by_cases e : s = k
    · subst e; simp at h
    · rw [show Nat.beq s k = false by rw [Tr.beq_def]; simpa using e] at h ⊢
      exact bk_purgeS_none h
theorem ak_purgeF {b : Nat} : ∀ {F : VK} {k : Nat} {v : AV}, ak (purgeF b F) k = some v → ∃ w, ak F k = some w ∧ v = purgeA b w
  | [], k, v, h => by cases h
  | (s, x) :: l, k, v, h => by
    simp only [purgeF, ak] at h ⊢
    by_cases e : s = k
    · subst e
      simp only [Nat.beq_refl, cond_true] at h ⊢
      cases h; exact ⟨x, rfl, rfl⟩
    · rw [show Nat.beq s k = false by rw [Tr.beq_def]; simpa using e] at h ⊢
      exact ak_purgeF h
section
variable {E : Env} {S S' : St} {Z Z' : Nat → Prop} {j j' : Nm} {b : Nat}
theorem purge1_ok (hz : ZLe E S Z S' Z') (hj : ∀ i b', i ≠ b → j i = some b' → j' i = some b') {a : AV} {v : Value} (h : VR E S Z j a v) : VR E S' Z' j' (purge1 b a) v := by
  unfold purge1
  cases hb : a.only (notId b) with
  | true => exact h.mono hz (fun i b' hg hi => hj i b' (fun e => by subst e; simp [notId] at hg) hi) hb
  | false => exact .junk v
theorem purgeL_ok (hz : ZLe E S Z S' Z') (hj : ∀ i b', i ≠ b → j i = some b' → j' i = some b') : ∀ {a : List AV} {v : List Value}, VRs E S Z j a v → VRs E S' Z' j' (purgeL b a) v
  | _, _, .nil => .nil
  | _, _, .cons h hl => .cons (purge1_ok hz hj h) (purgeL_ok hz hj hl)
theorem purgeA_ok (hz : ZLe E S Z S' Z') (hj : ∀ i b', i ≠ b → j i = some b' → j' i = some b') {a : AV} {v : Value} (h : VR E S Z j a v) : VR E S' Z' j' (purgeA b a) v := by
  unfold purgeA
  split
  · cases h with | p h => exact .p (h.mono hz)
  · cases h with | agg hs h => exact .agg hs (purgeL_ok hz hj h)
  · cases h with | tup h => exact .tup (purgeL_ok hz hj h)
  · exact purge1_ok hz hj h
theorem unp_ok : ∀ {l : List AV} {q : List PV} {vs : List Value}, unp l = some q → VRs E S Z j l vs → PRs E S Z q vs
  | [], q, vs, h, hv => by cases h; cases hv; exact .nil
  | a :: l, q, vs, h, hv => by
    cases hv with
    | cons h1 h2 =>
      cases a with
      | p x =>
        simp only [unp] at h
        split at h
        · rename_i r hr
          cases h
          cases h1 with | p h1 => exact .cons h1 (unp_ok hr h2)
        · cases h
      | _ => simp [unp] at h
theorem unp_len : ∀ {l : List AV} {q : List PV}, unp l = some q → q.length = l.length
  | [], q, h => by cases h; rfl
  | a :: l, q, h => by
    cases a with
    | p x =>
      simp only [unp] at h
      split at h
      · rename_i r hr; cases h; simp [unp_len hr]
      · cases h
    | _ => simp [unp] at h
end
end
end Go.Proofs.YtncpeobcgmkkbaaGreat
/- Operations that make or write memory: what a walk sees is so. -/
namespace Go.Proofs.YtncpeobcgmkkbaaGreat
noncomputable section
theorem heap_new_ne {S : St} {o : LObj} {b : Nat} (hb : b ≠ S.size) : (S.new o).heap.get b = S.heap.get b := by
  rw [get_new, if_neg hb]
theorem heap_put_ne {S : St} {o : LObj} {b d : Nat} (hb : d ≠ b) : (S.put b o).heap.get d = S.heap.get d := by
  rw [get_put, if_neg hb]
section
variable {S : St} {Z : Nat → Prop} {j : Nm} {E : Env} {tb : Tab} {L : VS} {F : VK} {T : Fr}
def ext (j : Nm) (i b : Nat) : Nm := fun k => if k = i then some b else j k
theorem ext_new {j : Nm} {q s i b : Nat} (h0 : j i = none) (h1 : ext j q s i = some b) : s ≤ b := by
  unfold ext at h1
  split at h1
  · cases h1; exact Nat.le_refl _
  · rw [h0] at h1; cases h1
theorem nm_self (j : Nm) (i b : Nat) : ext j i b i = some b := by simp [ext]
theorem SR.jnx (hS : SR E S Z j L) : j (nx L) = none := hS.dom _ (bk_nx L)
theorem SR.ext_le (hS : SR E S Z j L) (b : Nat) : ∀ i b', j i = some b' → ext j (nx L) b i = some b' := fun i b' h => by
  unfold ext
  by_cases e : i = nx L
  · subst e; rw [hS.jnx] at h; cases h
  · rw [if_neg e]; exact h
theorem zle_new (hS : SR E S Z j L) (o : LObj) : ZLe E S Z (S.new o) Z := fun b hb => ⟨hb, rdc_eq (cells_new_ne (by have := hS.zlt b hb; omega))⟩
theorem SR.new {o : LObj} {vb : VB} (hS : SR E S Z j L) (hb : BR E (S.new o) Z (ext j (nx L) S.size) S.size vb) : SR E (S.new o) Z (ext j (nx L) S.size) ((nx L, vb) :: L) := by
  refine ⟨fun b hb => Nat.lt_succ_of_lt (hS.zlt b hb), fun i b hi => ?_, fun i i' b hi hi' => ?_, fun i hi => ?_, fun i vb' hi => ?_, fun b c hb => ⟨Nat.lt_succ_of_lt (hS.rom b c hb).1, fun i hi => ?_⟩⟩
  · unfold ext at hi
    split at hi
    · cases hi
      exact ⟨Nat.lt_succ_self _, fun hz => Nat.lt_irrefl _ (hS.zlt _ hz)⟩
    · exact ⟨Nat.lt_succ_of_lt (hS.jlt i b hi).1, (hS.jlt i b hi).2⟩
  · unfold ext at hi hi'
    split at hi
    · cases hi
      split at hi'
      · rename_i e1 e2; rw [e1, e2]
      · have := (hS.jlt _ _ hi').1; omega
    · split at hi'
      · cases hi'; have := (hS.jlt _ _ hi).1; omega
      · exact hS.inj i i' b hi hi'
  · rw [bk_cons] at hi
    split at hi
    · cases hi
    · rename_i e
      unfold ext; rw [if_neg e]; exact hS.dom i hi
  · rw [bk_cons] at hi
    split at hi
    · rename_i e
      cases hi; subst e
      exact .inr ⟨S.size, nm_self _ _ _, hb⟩
    · rename_i e
      rcases hS.blk' i vb' hi with hv | ⟨b, h1, h2⟩
      · exact .inl hv
      refine .inr ⟨b, hS.ext_le _ i b h1, h2.mono (heap_new_ne ?_) (zle_new hS o) (hS.ext_le _)⟩
      have := (hS.jlt _ _ h1).1; omega
  · unfold ext at hi
    split at hi
    · cases hi; exact Nat.lt_irrefl _ (hS.rom _ c hb).1
    · exact (hS.rom b c hb).2 i hi
theorem Ex.new (hS : SR E S Z j L) (o : LObj) : Ex S Z j (S.new o) Z (ext j (nx L) S.size) := by
  refine ⟨Nat.le_succ _, fun b hb _ => by rw [get_new, if_neg (by omega)], fun b h => h, fun b h => .inl h, fun i b hi => ?_, Nat.le_refl _, fun m h _ _ => h⟩
  unfold ext at hi
  split at hi
  · cases hi; exact .inl (Nat.le_refl _)
  · exact .inr ⟨i, hi⟩
theorem FRR.new (hF : FRR E S Z j F T) (hS : SR E S Z j L) (o : LObj) : FRR E (S.new o) Z (ext j (nx L) S.size) F T := hF.mono' (zle_new hS o) (hS.ext_le _)
abbrev ZN (S : St) (Z : Nat → Prop) : Nat → Prop := fun b => Z b ∨ b = S.size
theorem zle_newZ (hS : SR E S Z j L) (o : LObj) : ZLe E S Z (S.new o) (ZN S Z) := fun b hb => ⟨.inl hb, rdc_eq (cells_new_ne (by have := hS.zlt b hb; omega))⟩
theorem SR.newZ (hS : SR E S Z j L) (o : LObj) : SR E (S.new o) (ZN S Z) j L := by
  refine ⟨fun b hb => ?_, fun i b hi => ⟨Nat.lt_succ_of_lt (hS.jlt i b hi).1, fun h => ?_⟩, hS.inj, hS.dom, fun i vb hi => ?_, fun b c hb => ⟨Nat.lt_succ_of_lt (hS.rom b c hb).1, (hS.rom b c hb).2⟩⟩
  · rcases hb with hb | rfl
    · exact Nat.lt_succ_of_lt (hS.zlt b hb)
    · exact Nat.lt_succ_self _
  · rcases h with h | rfl
    · exact (hS.jlt i b hi).2 h
    · exact Nat.lt_irrefl _ (hS.jlt i _ hi).1
  · rcases hS.blk' i vb hi with hv | ⟨b, h1, h2⟩
    · exact .inl hv
    refine .inr ⟨b, h1, h2.mono (heap_new_ne ?_) (zle_newZ hS o) (fun _ _ h => h)⟩
    have := (hS.jlt _ _ h1).1; omega
theorem Ex.newZ (o : LObj) : Ex S Z j (S.new o) (ZN S Z) j := by
  refine ⟨Nat.le_succ _, fun b hb _ => by rw [get_new, if_neg (by omega)], fun b h => .inl h, fun b h => ?_, fun i b hi => .inr ⟨i, hi⟩, Nat.le_refl _, fun m h _ _ => h⟩
  rcases h with h | rfl
  · exact .inl h
  · exact .inr (.inl (Nat.le_refl _))
theorem zle_put (hS : SR E S Z j L) {i b : Nat} (hj : j i = some b) (o : LObj) : ZLe E S Z (S.put b o) Z := fun c hc => ⟨hc, rdc_eq (cells_put_ne (fun e => by subst e; exact (hS.jlt i _ hj).2 hc))⟩
theorem SR.put {i b : Nat} {vb w : VB} {o : LObj} (hS : SR E S Z j L) (hi : bk L i = some w) (hj : j i = some b) (hb : BR E (S.put b o) Z j b vb) : SR E (S.put b o) Z j (up L i vb) := by
  refine ⟨hS.zlt, hS.jlt, hS.inj, fun k hk => ?_, fun k vb' hk => ?_, hS.rom⟩
  · rw [bk_up hi] at hk
    split at hk
    · cases hk
    · exact hS.dom k hk
  · rw [bk_up hi] at hk
    split at hk
    · rename_i e; cases hk; subst e; exact .inr ⟨b, hj, hb⟩
    · rename_i e
      rcases hS.blk' k vb' hk with hv | ⟨b', h1, h2⟩
      · exact .inl hv
      exact .inr ⟨b', h1, h2.mono (heap_put_ne (fun h => by subst h; exact e (hS.inj _ _ _ h1 hj))) (zle_put hS hj o) (fun _ _ h => h)⟩
theorem Ex.put (hS : SR E S Z j L) {i b : Nat} (hj : j i = some b) (o : LObj) : Ex S Z j (S.put b o) Z j := by
  refine ⟨Nat.le_refl _, fun c hc hn => by rw [get_put, if_neg (fun e => by subst e; exact hn i hj)], fun b h => h, fun b h => .inl h, fun i b hi => .inr ⟨i, hi⟩, Nat.min_le_right _ _, fun m h1 _ h3 => ?_⟩
  show m ≤ Nat.min b S.low
  exact Nat.le_min.2 ⟨h3 i b hj, h1⟩
def Sound (E : Env) (T : Fr) (S : St) (Z : Nat → Prop) (j : Nm) (o : Op) (out : VOut) : Prop := ∃ u S' Z' j', (∀ cF dF, evOp E cF dF T S o = some (u, S')) ∧ SR E S' Z' j' out.L ∧ FRR E S' Z' j' out.F T ∧ VR E S' Z' j' out.a u ∧ Ex S Z j S' Z' j' ∧
  (S.low ≤ S.size → S'.low ≤ S'.size) ∧ (out.kind = 0 → S'.low = S.low) ∧ (out.kind = 1 → ∃ b, j out.at_ = some b ∧ storeAt T o = some b ∧ ∃ x, S' = S.put b x) ∧ (∀ i b, j i = none → j' i = some b → S.size ≤ b) ∧ ∀ i b, (out.kind = 2 → i ≠ out.at_) → j i = some b → j' i = some b
theorem valloc_ok {t : Nat} {out : VOut} (hT : TabOK E tb = true) (h : valloc tb F L (nx L) t = some out) (hS : SR E S Z j L) (hF : FRR E S Z j F T) : Sound E T S Z j (.alloc t) out := by
  unfold valloc at h
  split at h
  · rename_i x hi0
    obtain ⟨i, hti⟩ := vt_ok hT hi0
    cases h
    have hz := zOks_prs (E := E) (S := S) (Z := Z) hti.zero
    refine ⟨ptr S.size 0, S.new (.cells i.zero.cells.toList t), Z, ext j (nx L) S.size, fun cF dF => ?_, hS.new ⟨_, cells_new, hz.scalars, (hz.mono (zle_new hS _)).toV⟩, hF.new hS _, .ref (nm_self _ _ _), Ex.new hS _, fun h => Nat.le_succ_of_le h, fun _ => rfl, fun h => (by cases h), fun i b h0 h1 => ext_new h0 h1, fun i b _ h => hS.ext_le _ i b h⟩
    show ob (E.ti.get t) _ = _
    rw [hti.get]; rfl
  · cases h
theorem vbox_ok {t : Nat} {x : Operand} {a : AV} {out : VOut} (hx : av F x = some a) (h : vbox F L (nx L) t a = some out) (hS : SR E S Z j L) (hF : FRR E S Z j F T) : Sound E T S Z j (.box t x) out := by
  unfold vbox at h
  split at h
  · rename_i cs hc
    cases h
    obtain ⟨v, h1, h2⟩ := hF.ev hx
    obtain ⟨h3, h4⟩ := acells_ok hc h2
    refine ⟨ptr S.size 0, S.new (.cells v.cells.toList t), Z, ext j (nx L) S.size, fun cF dF => ?_, hS.new ⟨_, cells_new, h4, h3.mono' (zle_new hS _) (hS.ext_le _)⟩, hF.new hS _, .ref (nm_self _ _ _), Ex.new hS _, fun h => Nat.le_succ_of_le h, fun _ => rfl, fun h => (by cases h), fun i b h0 h1 => ext_new h0 h1, fun i b _ h => hS.ext_le _ i b h⟩
    show ob (T.ev x) _ = _
    rw [h1]; rfl
  · cases h
theorem vzeros_ok {zp : List PV} {zv : List Value} (h : PRs E S Z zp zv) : ∀ n, PRs E S Z (vzeros zp n) (zeros zv n)
  | 0 => .nil
  | n + 1 => h.append (vzeros_ok h n)
theorem zeros_len (z : List Value) : ∀ n, (zeros z n).length = n * z.length
  | 0 => by show ([] : List Value).length = _; simp
  | n + 1 => by
    show (z ++ zeros z n).length = _
    rw [List.length_append, zeros_len z n, Nat.succ_mul]; omega
theorem cut_zeros (z : List Value) : ∀ (n k : Nat), k < n → cut (zeros z n) (k * z.length) z.length = some z
  | n + 1, 0, _ => by
    unfold cut
    rw [show Nat.ble (Nat.add (0 * z.length) z.length) (zeros z (n + 1)).length = true from ble_t (by rw [zeros_len, Nat.succ_mul]; show 0 * z.length + z.length ≤ _; omega)]
    show some (((z ++ zeros z n).drop (0 * z.length)).take z.length) = _
    simp
  | n + 1, k + 1, h => by
    have ih := cut_zeros z n k (by omega)
    unfold cut at ih ⊢
    obtain ⟨h1, h2⟩ := gd_some ih
    have h3 := ble_le h1
    rw [zeros_len] at h3
    rw [show Nat.ble (Nat.add ((k + 1) * z.length) z.length) (zeros z (n + 1)).length = true from ble_t (by
      rw [zeros_len]; show (k + 1) * z.length + z.length ≤ _
      have := Nat.mul_le_mul_right z.length (show k + 1 + 1 ≤ n + 1 by omega)
      rw [Nat.succ_mul (k + 1)] at this; exact this)]
    show some (((z ++ zeros z n).drop ((k + 1) * z.length)).take z.length) = _
    rw [show (k + 1) * z.length = z.length + k * z.length by rw [Nat.succ_mul]; omega, ← List.drop_drop, List.drop_left]
    exact h2
theorem zero_len {x : LTy} {e sz : Nat} (h : Elok E e sz x) : x.zero.cells.toList.length = sz := by
  rw [Array.length_toList, beq_eq h.zero, h.size]
theorem vmakeSlice_ok {t : Nat} {x y : Operand} {a b : AV} {out : VOut} (hT : TabOK E tb = true) (hx : av F x = some a) (hy : av F y = some b) (h : vmakeSlice tb F L (nx L) t a b = some out) (ho : ∀ P ∈ out.ob, P) (hS : SR E S Z j L) (hF : FRR E S Z j F T) : Sound E T S Z j (.makeSlice t x y) out := by
  unfold vmakeSlice at h
  split at h
  · rename_i sz ag elem esz zs ik n ik2 c hi0
    obtain ⟨i, hti⟩ := vt_ok hT hi0
    obtain ⟨hgs, e, he⟩ := dOk_slice hti.d
    split at h
    · rename_i ve hve
      obtain ⟨e', hte⟩ := vt_ok hT hve
      have : e' = e := by have := hte.get; rw [he.get] at this; cases this; rfl
      subst this
      cases h
      have h1 := ho (n ≤ c) (by simp)
      have h2 := ho (c ≤ 1048576) (by simp)
      obtain ⟨v, k1, k2⟩ := hF.ev hx
      obtain ⟨w, k3, k4⟩ := hF.ev hy
      cases k2 with
      | p k2 => cases k2; cases k4 with
        | p k4 =>
          cases k4
          have hz := zOks_prs (E := E) (S := S) (Z := Z) hte.zero
          refine ⟨.slice (some ⟨S.size, 0, none⟩) n c, S.new (.cells (zeros e'.zero.cells.toList c) elem), Z, ext j (nx L) S.size, fun cF dF => ?_, hS.new ⟨_, fun _ => e'.zero.cells.toList, cells_new, ?_, fun k hk => ?_, fun k hk => hz.mono (zle_new hS _)⟩, hF.new hS _, ?_, Ex.new hS _, fun h => Nat.le_succ_of_le h, fun _ => rfl, fun h => (by cases h), fun i b h0 h1 => ext_new h0 h1, fun i b _ h => hS.ext_le _ i b h⟩
          · show ob (T.ev x) (fun a => ob (T.ev y) fun b => makeSliceL E t a b S) = _
            rw [k1, k3]
            show ob (E.ti.get t) _ = _
            rw [hti.get]
            show ob (sliceD i.desc) _ = _
            rw [hgs]
            show ob (E.ti.get elem) _ = _
            rw [he.get]
            show gd (Nat.ble n c && (Nat.ble c 1048576 && (Nat.ble e'.bytes 4096 && (Nat.blt 0 e'.size && Nat.beq e'.zero.cells.size e'.size)))) _ = _
            rw [ble_t h1, ble_t h2, he.bytes, he.zero, show Nat.blt 0 e'.size = true by simpa using he.pos]; rfl
          · rw [zeros_len, zero_len he]
          · have := cut_zeros e'.zero.cells.toList c k hk
            rw [zero_len he] at this; exact this
          · have := VR.sl (E := E) (S := S.new (.cells (zeros e'.zero.cells.toList c) elem)) (Z := Z) (sz := esz) (off := 0) (n := n) (cap := c) (ex := 1) (nm_self j (nx L) S.size)
            rw [Nat.zero_mul] at this
            exact this
    · cases h
  · cases h
theorem cut_at {cs : List Value} {o n : Nat} (h : o + n ≤ cs.length) : cut cs o n = some ((cs.drop o).take n) := by
  unfold cut
  rw [show Nat.ble (Nat.add o n) cs.length = true from ble_t h]; rfl
theorem vbuildSlice_ok {t len : Nat} {parts : Array (Nat × Operand)} {out : VOut} (hT : TabOK E tb = true) (h : vbuildSlice tb F L (nx L) t len parts.toList = some out) (hS : SR E S Z j L) (hF : FRR E S Z j F T) : Sound E T S Z j (.buildSlice t len parts) out := by
  unfold vbuildSlice at h
  split at h
  · rename_i sz ag elem esz zs hi0
    obtain ⟨i, hti⟩ := vt_ok hT hi0
    obtain ⟨hgs, e, he⟩ := dOk_slice hti.d
    split at h
    · rename_i ve ps hve hps
      obtain ⟨e', hte⟩ := vt_ok hT hve
      have : e' = e := by have := hte.get; rw [he.get] at this; cases this; rfl
      subst this
      cases hb : Nat.ble (len * esz) 16777216 with
      | false => rw [hb] at h; cases h
      | true =>
        rw [hb] at h
        simp only [cond_true] at h
        split at h
        · rename_i c hc
          split at h
          · rename_i l hl
            obtain ⟨vs, h1, h2, h3⟩ := vparts_ok hF hps
            have hz := vzeros_ok (zOks_prs (E := E) (S := S) (Z := Z) hte.zero) len
            obtain ⟨q, h4, h5, h6, h7⟩ := vfill_ok (place' := fun i => some (i * esz, esz)) (fun i q hq => hq) hc h2 h3 (hz.toV (j := j)) hz.scalars
            have hq := unp_ok hl h5
            rw [zeros_len, zero_len he] at h7
            have hev : ∀ cF dF, evOp E cF dF T S (.buildSlice t len parts) = some (.slice (some ⟨S.size, 0, none⟩) len len, S.new (.cells q elem)) := by
              intro cF dF
              show ob (E.ti.get t) _ = _
              rw [hti.get]
              show ob (sliceD i.desc) _ = _
              rw [hgs]
              show ob (evParts T parts.toList) _ = _
              rw [h1]
              show ob (E.ti.get elem) _ = _
              rw [he.get]
              show gd (Nat.ble (len * e'.size) 16777216 && (Nat.blt 0 e'.size && Nat.beq e'.zero.cells.size e'.size)) (ob (fillL (fun i => some (i * e'.size, e'.size)) (zeros e'.zero.cells.toList len) vs) _) = _
              rw [he.size, hb, show Nat.blt 0 esz = true by rw [← he.size]; simpa using he.pos, show Nat.beq e'.zero.cells.size esz = true by rw [← he.size]; exact he.zero, h4]; rfl
            split at h
            · cases h
              refine ⟨_, _, Z, ext j (nx L) S.size, hev, hS.new ⟨q, fun _ => [], cells_new, by rw [h7], fun k hk => by omega, fun k hk => by omega⟩, hF.new hS _, ?_, Ex.new hS _, fun h => Nat.le_succ_of_le h, fun _ => rfl, fun h => (by cases h), fun i b h0 h1 => ext_new h0 h1, fun i b _ h => hS.ext_le _ i b h⟩
              have := VR.sl (E := E) (S := S.new (.cells q elem)) (Z := Z) (sz := esz) (off := 0) (n := 0) (cap := 0) (ex := 2) (nm_self j (nx L) S.size)
              rw [Nat.zero_mul] at this
              exact this
            · rename_i n
              cases h
              refine ⟨_, _, ZN S Z, j, hev, hS.newZ _, hF.mono' (zle_newZ hS _) (fun _ _ h => h), ?_, Ex.newZ _, fun h => Nat.le_succ_of_le h, fun _ => rfl, fun h => (by cases h), fun i b h0 h1 => (by rw [h0] at h1; cases h1), fun i b _ h => h⟩
              have hlq := hq.mono (zle_newZ hS (.cells q elem))
              refine .p (.lst (sz := esz) (fun k => (q.drop (k * esz)).take esz) (.inr rfl) ((rdc_none hS.rom_new).trans cells_new) (Nat.le_refl _) (Nat.zero_le _) (.inl rfl) (fun k hk => ?_) (fun k hk => (hlq.drop _).take _))
              rw [Nat.zero_add]
              refine cut_at ?_
              rw [h7]
              have := Nat.mul_le_mul_right esz (show k + 1 ≤ n + 1 by omega)
              rw [Nat.succ_mul] at this; exact this
          · cases h
        · cases h
    · cases h
  · cases h
end
end
end Go.Proofs.YtncpeobcgmkkbaaGreat
/- Stores and appends: what a walk sees is so. -/
namespace Go.Proofs.YtncpeobcgmkkbaaGreat
noncomputable section
section
variable {S : St} {Z : Nat → Prop} {j : Nm} {E : Env} {tb : Tab} {L : VS} {F : VK} {T : Fr}
theorem paste_get {cs r vs : List Value} {o : Nat} (h : paste cs o vs = some r) : o + vs.length ≤ cs.length ∧ r = cs.take o ++ vs ++ cs.drop (o + vs.length) := by
  unfold paste at h
  obtain ⟨h1, h2⟩ := gd_some h
  cases h2
  exact ⟨ble_le h1, rfl⟩
theorem pst_some {cs vs : List Value} {o : Nat} (h : o + vs.length ≤ cs.length) : paste cs o vs = some (cs.take o ++ vs ++ cs.drop (o + vs.length)) := by
  unfold paste
  rw [show Nat.ble (Nat.add o vs.length) cs.length = true from ble_t h]; rfl
/-- Cells that a write does not meet. -/
theorem cut_paste_ne {cs vs : List Value} {o a n : Nat} (h : o + vs.length ≤ cs.length) (hd : a + n ≤ o ∨ o + vs.length ≤ a) : cut (cs.take o ++ vs ++ cs.drop (o + vs.length)) a n = cut cs a n := by
  have hlen : (cs.take o ++ vs ++ cs.drop (o + vs.length)).length = cs.length := by simp; omega
  unfold cut
  rw [hlen]
  by_cases hle : a + n ≤ cs.length
  · rw [show Nat.ble (Nat.add a n) cs.length = true from ble_t hle]
    show some _ = some _
    congr 1
    apply List.ext_getElem?
    intro i
    rw [List.getElem?_take, List.getElem?_take]
    split
    · rename_i hi
      rw [List.getElem?_drop, List.getElem?_drop]
      rcases hd with hd | hd
      · rw [List.append_assoc, List.getElem?_append_left (by simp; omega), List.getElem?_take, if_pos (by omega)]
      · rw [List.getElem?_append_right (by simp; omega), List.getElem?_drop]
        congr 1
        simp; omega
    · rfl
  · rw [show Nat.ble (Nat.add a n) cs.length = false by
      cases hb : Nat.ble (Nat.add a n) cs.length with
      | false => rfl
      | true => exact absurd (ble_le hb) hle]
    rfl
theorem cut_paste_eq {cs vs : List Value} {o a n : Nat} (h : o + vs.length ≤ cs.length) (ha : o ≤ a) (hn : a + n ≤ o + vs.length) : cut (cs.take o ++ vs ++ cs.drop (o + vs.length)) a n = some ((vs.drop (a - o)).take n) := by
  have hlen : (cs.take o ++ vs ++ cs.drop (o + vs.length)).length = cs.length := by simp; omega
  rw [cut_at (by rw [hlen]; omega)]
  congr 1
  apply List.ext_getElem?
  intro i
  rw [List.getElem?_take, List.getElem?_take]
  split
  · rename_i hi
    rw [List.getElem?_drop, List.getElem?_drop, List.append_assoc, List.getElem?_append_right (by simp; omega), List.getElem?_append_left (by simp; omega)]
    congr 1
    simp; omega
  · rfl
/-- A write into one element. -/
theorem cut_paste_in {cs vs g : List Value} {k sz off : Nat} (hg : cut cs (k * sz) sz = some g) (ho : off + vs.length ≤ sz) : cut (cs.take (k * sz + off) ++ vs ++ cs.drop (k * sz + off + vs.length)) (k * sz) sz = some (g.take off ++ vs ++ g.drop (off + vs.length)) := by
  have h1 := cut_end hg
  have hgl := cut_len hg
  have hlen : (cs.take (k * sz + off) ++ vs ++ cs.drop (k * sz + off + vs.length)).length = cs.length := by simp; omega
  rw [cut_at (by rw [hlen]; omega)]
  congr 1
  apply List.ext_getElem?
  intro i
  rw [List.getElem?_take]
  split
  · rename_i hi
    rw [List.getElem?_drop, List.append_assoc, List.append_assoc]
    by_cases h2 : i < off
    · have l1 : (cs.take (k * sz + off) ++ (vs ++ cs.drop (k * sz + off + vs.length)))[k * sz + i]? = cs[k * sz + i]? := by
        rw [List.getElem?_append_left (by simp; omega), List.getElem?_take, if_pos (by omega)]
      have l2 : (g.take off ++ (vs ++ g.drop (off + vs.length)))[i]? = g[i]? := by
        rw [List.getElem?_append_left (by simp; omega), List.getElem?_take, if_pos h2]
      rw [l1, l2, cut_get hg hi]
    · have l1 : (cs.take (k * sz + off) ++ (vs ++ cs.drop (k * sz + off + vs.length)))[k * sz + i]? = (vs ++ cs.drop (k * sz + off + vs.length))[i - off]? := by
        rw [List.getElem?_append_right (by simp; omega)]
        congr 1; simp; omega
      have l2 : (g.take off ++ (vs ++ g.drop (off + vs.length)))[i]? = (vs ++ g.drop (off + vs.length))[i - off]? := by
        rw [List.getElem?_append_right (by simp; omega)]
        congr 1; simp; omega
      rw [l1, l2]
      by_cases h3 : i - off < vs.length
      · rw [List.getElem?_append_left h3, List.getElem?_append_left h3]
      · have l3 : (vs ++ cs.drop (k * sz + off + vs.length))[i - off]? = cs[k * sz + i]? := by
          rw [List.getElem?_append_right (by omega), List.getElem?_drop]
          congr 1; omega
        have l4 : (vs ++ g.drop (off + vs.length))[i - off]? = g[i]? := by
          rw [List.getElem?_append_right (by omega), List.getElem?_drop]
          congr 1; omega
        rw [l3, l4, cut_get hg hi]
  · rename_i hi
    rw [List.getElem?_eq_none]
    simp; omega
theorem vstore_ok {t : Nat} {x y : Operand} {a b : AV} {out : VOut} (hT : TabOK E tb = true) (hx : av F x = some a) (hy : av F y = some b) (h : vstore tb F L t a b = some out) (ho : ∀ P ∈ out.ob, P) (hS : SR E S Z j L) (hF : FRR E S Z j F T) : Sound E T S Z j (.store t x y) out := by
  unfold vstore at h
  split at h
  · rename_i vt l hi0 hl
    obtain ⟨i, hti⟩ := vt_ok hT hi0
    obtain ⟨p, k1, k2⟩ := hF.ev hx
    obtain ⟨w, k3, k4⟩ := hF.ev hy
    obtain ⟨h1, h2⟩ := acells_ok hl k4
    cases hb : Nat.beq l.length vt.size with
    | false => rw [hb] at h; cases h
    | true =>
      rw [hb] at h
      simp only [cond_true] at h
      have hw : Nat.beq w.cells.size i.size = true := by rw [hti.size, ← Array.length_toList, ← h1.length]; exact hb
      have ev : ∀ (b' o : Nat) (cs r : List Value) (ty : TypeId), p = .pointer (some ⟨b', o, none⟩) → S.cells b' = some (cs, ty) → paste cs o w.cells.toList = some r → ∀ cF dF, evOp E cF dF T S (.store t x y) = some (undef, S.put b' (.cells r ty)) := by
        intro b' o cs r ty hp hc hpa cF dF
        show ob (ob (T.ev x) addrOf) _ = _
        rw [k1, hp]
        show ob (T.ev y) _ = _
        rw [k3]
        show ob (storeVarL E t ⟨b', o, none⟩ w S) _ = _
        unfold storeVarL
        rw [hti.get]
        show ob (gd (Nat.beq w.cells.size i.size) (S.store ⟨b', o, none⟩ w.cells.toList)) _ = _
        rw [hw]
        show ob (ob (S.cells b') _) _ = _
        rw [hc]
        show ob (gd (w.cells.toList.all scalar) (ob (paste cs o w.cells.toList) _)) _ = _
        rw [h2, hpa]; rfl
      have st : ∀ (b' o : Nat), p = .pointer (some ⟨b', o, none⟩) → storeAt T (.store t x y) = some b' := by
        intro b' o hp
        show ob (ob (T.ev x) addrOf) _ = _
        rw [k1, hp]; rfl
      split at h
      · rename_i bi off
        split at h
        · rename_i cs ty hbk
          split at h
          · rename_i c hc
            cases h
            cases k2 with
            | ref hj =>
              obtain ⟨b', e1, vs, h3, h4, h5⟩ := hS.blk _ _ hbk id
              rw [hj] at e1; cases e1
              obtain ⟨q, h6, h7, h8, _⟩ := vpaste_ok hc h5 h1 h4 h2
              refine ⟨undef, _, Z, j, ev _ _ _ _ _ rfl h3 h6, hS.put hbk hj ⟨q, cells_put, h8, h7.mono' (zle_put hS hj _) (fun _ _ h => h)⟩, hF.mono' (zle_put hS hj _) (fun _ _ h => h), .junk _, Ex.put hS hj _, fun h => Nat.le_trans (Nat.min_le_right _ _) h, fun h => (by cases h), fun _ => ⟨_, hj, st _ _ rfl, _, rfl⟩, fun i b h0 h1 => (by rw [h0] at h1; cases h1), fun i b _ h => h⟩
          · cases h
        · cases h
      · rename_i bi sz k off
        split at h
        · rename_i n sz' f ty q hbk hq
          cases h
          have o1 := ho (k < n) (by simp)
          have o2 := ho (sz = sz') (by simp)
          have o3 := ho (off + q.length ≤ sz) (by simp)
          subst o2
          cases k2 with
          | el hj =>
            obtain ⟨b', e1, vs, g, h3, h4, h5, h6⟩ := hS.blk _ _ hbk id
            rw [hj] at e1; cases e1
            have hql := unp_ok hq h1
            have hwl : w.cells.toList.length = q.length := hql.length.symm
            have hin : k * sz + off + w.cells.toList.length ≤ vs.length := by
              rw [h4, hwl]
              have := Nat.mul_le_mul_right sz (show k + 1 ≤ n by omega)
              rw [Nat.succ_mul] at this; omega
            refine ⟨undef, _, Z, j, ev _ _ _ _ _ rfl h3 (pst_some hin), hS.put hbk hj ⟨_, fun i => if i = k then (g k).take off ++ w.cells.toList ++ (g k).drop (off + w.cells.toList.length) else g i, cells_put, ?_, fun i hi => ?_, fun i hi => ?_⟩, hF.mono' (zle_put hS hj _) (fun _ _ h => h), .junk _, Ex.put hS hj _, fun h => Nat.le_trans (Nat.min_le_right _ _) h, fun h => (by cases h), fun _ => ⟨_, hj, st _ _ rfl, _, rfl⟩, fun i b h0 h1 => (by rw [h0] at h1; cases h1), fun i b _ h => h⟩
            · rw [← h4]; simp; simp at hin; omega
            · show cut _ _ _ = some (if i = k then _ else _)
              by_cases e : i = k
              · subst e
                rw [if_pos rfl]
                exact cut_paste_in (h5 i hi) (by omega)
              · rw [if_neg e, cut_paste_ne hin ?_]
                · exact h5 i hi
                · rcases Nat.lt_or_gt_of_ne e with h | h
                  · left
                    have := Nat.mul_le_mul_right sz (show i + 1 ≤ k by omega)
                    rw [Nat.succ_mul] at this; omega
                  · right
                    have := Nat.mul_le_mul_right sz (show k + 1 ≤ i by omega)
                    rw [Nat.succ_mul] at this; omega
            · show PRs E _ _ (bif Nat.beq i k then _ else _) (if i = k then _ else _)
              by_cases e : i = k
              · subst e
                rw [if_pos rfl, Nat.beq_refl]
                simp only [cond_true]
                have hg := (h6 i hi).mono (zle_put hS hj (.cells (vs.take (i * sz + off) ++ w.cells.toList ++ vs.drop (i * sz + off + w.cells.toList.length)) ty))
                have hq' := hql.mono (zle_put hS hj (.cells (vs.take (i * sz + off) ++ w.cells.toList ++ vs.drop (i * sz + off + w.cells.toList.length)) ty))
                unfold ppaste
                rw [← hwl]
                exact ((hg.take off).append hq').append (hg.drop _)
              · rw [beq_ne e, if_neg e]
                exact (h6 i hi).mono (zle_put hS hj _)
        · rename_i n sz' f ty q hbk hq
          cases h
          have o1 := ho (k < n) (by simp)
          have o2 := ho (sz = sz') (by simp)
          have o3 := ho (off + q.length ≤ sz) (by simp)
          subst o2
          cases k2 with
          | el hj =>
            obtain ⟨b', e1, vs, g, h3, h4, h5, h6⟩ := hS.blk _ _ hbk (fun h0 => by have h0 : n = 0 := h0; omega)
            rw [hj] at e1; cases e1
            have hql := unp_ok hq h1
            have hwl : w.cells.toList.length = q.length := hql.length.symm
            have hin : k * sz + off + w.cells.toList.length ≤ vs.length := by
              rw [h4, hwl]
              have := Nat.mul_le_mul_right sz (show k + 1 ≤ n by omega)
              rw [Nat.succ_mul] at this; omega
            refine ⟨undef, _, Z, j, ev _ _ _ _ _ rfl h3 (pst_some hin), hS.put hbk hj ⟨_, fun i => if i = k then (g k).take off ++ w.cells.toList ++ (g k).drop (off + w.cells.toList.length) else g i, cells_put, ?_, fun i hi => ?_, fun i hi => ?_⟩, hF.mono' (zle_put hS hj _) (fun _ _ h => h), .junk _, Ex.put hS hj _, fun h => Nat.le_trans (Nat.min_le_right _ _) h, fun h => (by cases h), fun _ => ⟨_, hj, st _ _ rfl, _, rfl⟩, fun i b h0 h1 => (by rw [h0] at h1; cases h1), fun i b _ h => h⟩
            · rw [← h4]; simp; simp at hin; omega
            · show cut _ _ _ = some (if i = k then _ else _)
              by_cases e : i = k
              · subst e
                rw [if_pos rfl]
                exact cut_paste_in (h5 i hi) (by omega)
              · rw [if_neg e, cut_paste_ne hin ?_]
                · exact h5 i hi
                · rcases Nat.lt_or_gt_of_ne e with h | h
                  · left
                    have := Nat.mul_le_mul_right sz (show i + 1 ≤ k by omega)
                    rw [Nat.succ_mul] at this; omega
                  · right
                    have := Nat.mul_le_mul_right sz (show k + 1 ≤ i by omega)
                    rw [Nat.succ_mul] at this; omega
            · show PRs E _ _ (bif Nat.beq i k then _ else _) (if i = k then _ else _)
              by_cases e : i = k
              · subst e
                rw [if_pos rfl, Nat.beq_refl]
                simp only [cond_true]
                have hg := (h6 i hi).mono (zle_put hS hj (.cells (vs.take (i * sz + off) ++ w.cells.toList ++ vs.drop (i * sz + off + w.cells.toList.length)) ty))
                have hq' := hql.mono (zle_put hS hj (.cells (vs.take (i * sz + off) ++ w.cells.toList ++ vs.drop (i * sz + off + w.cells.toList.length)) ty))
                unfold ppaste
                rw [← hwl]
                exact ((hg.take off).append hq').append (hg.drop _)
              · rw [beq_ne e, if_neg e]
                exact (h6 i hi).mono (zle_put hS hj _)
        · cases h
      · cases h
  · cases h
end
end
end Go.Proofs.YtncpeobcgmkkbaaGreat
/- Appends: what a walk sees is so; all operations. -/
namespace Go.Proofs.YtncpeobcgmkkbaaGreat
noncomputable section
section
variable {S : St} {Z : Nat → Prop} {j : Nm} {E : Env} {tb : Tab} {L : VS} {F : VK} {T : Fr}
theorem cut_app_left {a b r : List Value} {x n : Nat} (h : cut a x n = some r) : cut (a ++ b) x n = some r := by
  have h1 := cut_end h
  rw [cut_at h1] at h
  rw [cut_at (by simp; omega), ← h]
  congr 1
  apply List.ext_getElem?
  intro i
  rw [List.getElem?_take, List.getElem?_take]
  split
  · rw [List.getElem?_drop, List.getElem?_drop, List.getElem?_append_left (by omega)]
  · rfl
theorem cut_app_right {a b r : List Value} {x n : Nat} (h : cut b x n = some r) : cut (a ++ b) (a.length + x) n = some r := by
  have h1 := cut_end h
  rw [cut_at h1] at h
  rw [cut_at (by simp; omega), ← h, ← List.drop_drop, List.drop_left]
theorem mul_step {i n sz : Nat} (h : i < n) : i * sz + sz ≤ n * sz := by
  have := Nat.mul_le_mul_right sz (show i + 1 ≤ n by omega)
  rw [Nat.succ_mul] at this; exact this
/-- The cells of a list. -/
theorem lst_cells {ty k esz : Nat} {nb : Bool} {f : Nat → List PV} {v : Value} (h : PR E S Z (.lst ty nb k f) v) (hp : 0 < esz) (hl : ∀ i, i < k → (f i).length = esz) :
    ∃ new, ∃ g : Nat → List Value, lenValL v = some k ∧ cellsOfL E esz k v S = some new ∧ new.length = k * esz ∧ new.all scalar = true ∧ (∀ i, i < k → cut new (i * esz) esz = some (g i)) ∧ ∀ i, i < k → PRs E S Z (f i) (g i) := by
  cases h with
  | nil => exact ⟨[], fun _ => [], rfl, rfl, by simp, rfl, fun i hi => by omega, fun i hi => by omega⟩
  | lst g hz hc hcap hoff hty hcut hps =>
    rename_i b o cap sz sp cs t
    by_cases hk : k = 0
    · subst hk
      refine ⟨[], g, rfl, ?_, by simp, rfl, fun i hi => by omega, fun i hi => by omega⟩
      show ob (rdc E S b) _ = _
      rw [hc]
      show cut cs o (0 * esz) = _
      rw [Nat.zero_mul, cut_at (by omega)]; simp
    · have hsz : sz = esz := by
        have h1 := (hps 0 (by omega)).length
        rw [cut_len (hcut 0 (by omega)), hl 0 (by omega)] at h1
        exact h1.symm
      subst hsz
      have hend : o + k * sz ≤ cs.length := by
        have := cut_end (hcut (k - 1) (by omega))
        have e : (k - 1) * sz + sz = k * sz := by rw [← Nat.succ_mul]; congr 1; omega
        omega
      have hnew := cut_at hend
      have hcs : ∀ i, i < k → cut ((cs.drop o).take (k * sz)) (i * sz) sz = some (g i) := by
        intro i hi
        have h1 := mul_step (sz := sz) hi
        have h2 := cut_sub hnew (a := i * sz) (m := sz) h1
        rw [hcut i hi] at h2
        rw [cut_at (by rw [cut_len hnew]; exact h1)]
        exact h2.symm
      refine ⟨(cs.drop o).take (k * sz), g, rfl, ?_, cut_len hnew, ?_, hcs, hps⟩
      · show ob (rdc E S b) _ = _
        rw [hc]; exact hnew
      · rw [List.all_eq_true]
        intro x hx
        obtain ⟨m, hm⟩ := List.mem_iff_getElem?.1 hx
        have hml := (List.getElem?_eq_some_iff.1 hm).1
        rw [cut_len hnew] at hml
        have hi : m / sz < k := (Nat.div_lt_iff_lt_mul hp).2 hml
        have h1 := cut_get (hcs _ hi) (i := m % sz) (Nat.mod_lt _ hp)
        rw [show m / sz * sz + m % sz = m by rw [Nat.mul_comm]; exact Nat.div_add_mod m sz, hm] at h1
        have h2 := (hps _ hi).scalars
        rw [List.all_eq_true] at h2
        exact h2 x (List.mem_of_getElem? h1.symm)
theorem SR.rda {b i : Nat} {c : List Value × TypeId} (hS : SR E S Z j L) (hj : j i = some b) (hc : S.cells b = some c) (o : Nat) (sp : Option Nat) : Proofs.YtncpeobcgmkkbaaGreat.rda E S ⟨b, o, sp⟩ = some c := by
  have hn : E.rom.get b = none := by
    cases hr : E.rom.get b with
    | none => rfl
    | some q => exact absurd hj ((hS.rom b q hr).2 i)
  unfold Proofs.YtncpeobcgmkkbaaGreat.rda
  cases sp with
  | none => exact (hS.rd hj).trans hc
  | some x =>
    change Option.rec (motive := fun _ => Option (List Value × TypeId)) (S.cells b) (fun _ => none) (E.rom.get b) = _
    rw [hn]; exact hc
theorem SR.newAt {id : Nat} {o : LObj} {vb : VB} (hid : bk L id = none) (hS : SR E S Z j L) (hb : BR E (S.new o) Z (ext j id S.size) S.size vb) : SR E (S.new o) Z (ext j id S.size) ((id, vb) :: L) := by
  have hle : ∀ i b', j i = some b' → ext j id S.size i = some b' := fun i b' h => by
    unfold ext
    by_cases e : i = id
    · subst e; rw [hS.dom _ hid] at h; cases h
    · rw [if_neg e]; exact h
  refine ⟨fun b hb => Nat.lt_succ_of_lt (hS.zlt b hb), fun i b hi => ?_, fun i i' b hi hi' => ?_, fun i hi => ?_, fun i vb' hi => ?_, fun b c hb => ⟨Nat.lt_succ_of_lt (hS.rom b c hb).1, fun i hi => ?_⟩⟩
  · unfold ext at hi
    split at hi
    · cases hi
      exact ⟨Nat.lt_succ_self _, fun hz => Nat.lt_irrefl _ (hS.zlt _ hz)⟩
    · exact ⟨Nat.lt_succ_of_lt (hS.jlt i b hi).1, (hS.jlt i b hi).2⟩
  · unfold ext at hi hi'
    split at hi
    · cases hi
      split at hi'
      · rename_i e1 e2; rw [e1, e2]
      · have := (hS.jlt _ _ hi').1; omega
    · split at hi'
      · cases hi'; have := (hS.jlt _ _ hi).1; omega
      · exact hS.inj i i' b hi hi'
  · rw [bk_cons] at hi
    split at hi
    · cases hi
    · rename_i e
      unfold ext; rw [if_neg e]; exact hS.dom i hi
  · rw [bk_cons] at hi
    split at hi
    · rename_i e
      cases hi; subst e
      exact .inr ⟨S.size, nm_self _ _ _, hb⟩
    · rename_i e
      rcases hS.blk' i vb' hi with hv | ⟨b, h1, h2⟩
      · exact .inl hv
      refine .inr ⟨b, hle i b h1, h2.mono (heap_new_ne ?_) (zle_new hS o) hle⟩
      have := (hS.jlt _ _ h1).1; omega
  · unfold ext at hi
    split at hi
    · cases hi; exact Nat.lt_irrefl _ (hS.rom _ c hb).1
    · exact (hS.rom b c hb).2 i hi
/-- A block given up. -/
def jrm (j : Nm) (b : Nat) : Nm := fun i => if i = b then none else j i
theorem ext_newP {j : Nm} {c q s i b : Nat} (h0 : j i = none) (h1 : ext (jrm j c) q s i = some b) : s ≤ b := by
  refine ext_new ?_ h1
  unfold jrm
  split
  · rfl
  · exact h0
theorem jrm_le {b : Nat} : ∀ i b', i ≠ b → j i = some b' → jrm j b i = some b' := fun i b' h hj => by unfold jrm; rw [if_neg h]; exact hj
theorem FRR.purge {S' : St} {Z' : Nat → Prop} {j' : Nm} {b : Nat} (hF : FRR E S Z j F T) (hz : ZLe E S Z S' Z') (hj : ∀ i b', i ≠ b → j i = some b' → j' i = some b') : FRR E S' Z' j' (purgeF b F) T := by
  intro t a ha
  obtain ⟨w, h1, rfl⟩ := ak_purgeF ha
  obtain ⟨v, h2, h3⟩ := hF t w h1
  exact ⟨v, h2, purgeA_ok hz hj h3⟩
theorem BR.purge {S' : St} {Z' : Nat → Prop} {j' : Nm} {b c : Nat} {vb : VB} (h : BR E S Z j c vb) (hh : S'.heap.get c = S.heap.get c) (hz : ZLe E S Z S' Z') (hj : ∀ i b', i ≠ b → j i = some b' → j' i = some b') : BR E S' Z' j' c (purgeB b vb) := by
  have hc : S'.cells c = S.cells c := by unfold St.cells; rw [hh]
  cases vb with
  | cells cs t => obtain ⟨vs, h1, h2, h3⟩ := h; exact ⟨vs, hc.trans h1, h2, purgeL_ok hz hj h3⟩
  | arr n sz f t => obtain ⟨vs, g, h1, h2, h3, h4⟩ := h; exact ⟨vs, g, hc.trans h1, h2, h3, fun k hk => (h4 k hk).mono hz⟩
  | loop st pd G N ps asg body => obtain ⟨T, h1, h2, h3⟩ := h; exact ⟨T, hh.trans h1, h2, h3.purge hz hj⟩
  | acc n sz f t => obtain ⟨vs, g, h1, h2, h3, h4⟩ := h; exact ⟨vs, g, hc.trans h1, h2, h3, fun k hk => (h4 k hk).mono hz⟩
  | mapI f => obtain ⟨l, h1, h2⟩ := h; exact ⟨l, hh.trans h1, h2⟩
theorem void_purge {b : Nat} {vb : VB} (h : vb.void) : (purgeB b vb).void := by cases vb <;> exact h
theorem SR.giveUp {b b' : Nat} {S1 : St} (hS : SR E S Z j L) (hj : j b = some b') (hsz : S1.size = S.size) (hh : ∀ c, c ≠ b' → S1.heap.get c = S.heap.get c) : SR E S1 Z (jrm j b) (purgeS b (rm L b)) ∧ ZLe E S Z S1 Z := by
  have hz : ZLe E S Z S1 Z := fun c hc => ⟨hc, by unfold rdc St.cells; rw [hh c (fun e => by subst e; exact (hS.jlt _ _ hj).2 hc)]⟩
  refine ⟨⟨fun c hc => by rw [hsz]; exact hS.zlt c hc, fun i c hi => ?_, fun i i' c hi hi' => ?_, fun i hi => ?_, fun i vb hi => ?_, fun c q hc => ⟨by rw [hsz]; exact (hS.rom c q hc).1, fun i hi => by
    unfold jrm at hi
    split at hi
    · cases hi
    · exact (hS.rom c q hc).2 i hi⟩⟩, hz⟩
  · unfold jrm at hi
    split at hi
    · cases hi
    · rw [hsz]; exact hS.jlt i c hi
  · unfold jrm at hi hi'
    split at hi
    · cases hi
    · split at hi'
      · cases hi'
      · exact hS.inj i i' c hi hi'
  · have := bk_purgeS_none hi
    rw [bk_rm] at this
    unfold jrm
    split at this
    · rename_i e; rw [if_pos e]
    · rename_i e; rw [if_neg e]; exact hS.dom i this
  · obtain ⟨w, h1, rfl⟩ := bk_purgeS hi
    rw [bk_rm] at h1
    split at h1
    · cases h1
    · rename_i e
      rcases hS.blk' i w h1 with hv | ⟨c, h2, h3⟩
      · exact .inl (void_purge hv)
      refine .inr ⟨c, jrm_le i c e h2, h3.purge ?_ hz jrm_le⟩
      exact hh c (fun e2 => by subst e2; exact e (hS.inj _ _ _ h2 hj))
theorem SR.giveUp0 {b : Nat} (hS : SR E S Z j L) : SR E S Z (jrm j b) (purgeS b (rm L b)) := by
  have hz : ZLe E S Z S Z := fun c hc => ⟨hc, rfl⟩
  refine ⟨fun c hc => hS.zlt c hc, fun i c hi => ?_, fun i i' c hi hi' => ?_, fun i hi => ?_, fun i vb hi => ?_, fun c q hc => ⟨(hS.rom c q hc).1, fun i hi => by
    unfold jrm at hi
    split at hi
    · cases hi
    · exact (hS.rom c q hc).2 i hi⟩⟩
  · unfold jrm at hi
    split at hi
    · cases hi
    · exact hS.jlt i c hi
  · unfold jrm at hi hi'
    split at hi
    · cases hi
    · split at hi'
      · cases hi'
      · exact hS.inj i i' c hi hi'
  · have := bk_purgeS_none hi
    rw [bk_rm] at this
    unfold jrm
    split at this
    · rename_i e; rw [if_pos e]
    · rename_i e; rw [if_neg e]; exact hS.dom i this
  · obtain ⟨w, h1, rfl⟩ := bk_purgeS hi
    rw [bk_rm] at h1
    split at h1
    · cases h1
    · rename_i e
      rcases hS.blk' i w h1 with hv | ⟨c, h2, h3⟩
      · exact .inl (void_purge hv)
      exact .inr ⟨c, jrm_le i c e h2, h3.purge rfl hz jrm_le⟩
theorem Ex.giveUp0 {b : Nat} : Ex S Z j S Z (jrm j b) := by
  refine ⟨Nat.le_refl _, fun c _ hn => rfl, fun c h => h, fun c h => .inl h, fun i c hi => ?_, Nat.le_refl _, fun m h1 _ h3 => h1⟩
  unfold jrm at hi
  split at hi
  · cases hi
  · exact .inr ⟨i, hi⟩
theorem VR.accP {nb : Bool} {i sz n b : Nat} (hn : 0 < n) (h : j i = some b) : VR E S Z j (.acc nb i sz n) (.slice (some ⟨b, 0, some 0⟩) n n) := by
  cases n with
  | zero => omega
  | succ n => exact .accC h
theorem Ex.giveUp {b b' : Nat} {S1 : St} (hj : j b = some b') (hsz : S1.size = S.size) (hh : ∀ c, c ≠ b' → S1.heap.get c = S.heap.get c) (hl : S1.low = S.low ∨ S1.low = Nat.min b' S.low) : Ex S Z j S1 Z (jrm j b) := by
  refine ⟨Nat.le_of_eq hsz.symm, fun c _ hn => hh c (fun e => by subst e; exact hn b hj), fun c h => h, fun c h => .inl h, fun i c hi => ?_, ?_, fun m h1 _ h3 => ?_⟩
  · unfold jrm at hi
    split at hi
    · cases hi
    · exact .inr ⟨i, hi⟩
  · rcases hl with h | h
    · rw [h]; exact Nat.le_refl _
    · rw [h]; exact Nat.min_le_right _ _
  · rcases hl with h | h
    · rw [h]; exact h1
    · rw [h]; exact Nat.le_min.2 ⟨h3 b b' hj, h1⟩
theorem bk_gone (L : VS) (b : Nat) : bk (purgeS b (rm L b)) (nx L) = none := by
  cases h : bk (purgeS b (rm L b)) (nx L) with
  | none => rfl
  | some v =>
    obtain ⟨w, h1, _⟩ := bk_purgeS h
    rw [bk_rm] at h1
    split at h1
    · cases h1
    · rw [bk_nx] at h1; cases h1
theorem vappend_ok {c : Call} {t u : Nat} {s x : AV} {z : Bool} {out : VOut} (hT : TabOK E tb = true) (hc : c.callee = .builtin .append) (ht : c.argTypes.toList = [t, u]) (ha : avs F c.args.toList = some [s, x]) (h : vappend tb F L (nx L) z t u s x = some out) (ho : ∀ P ∈ out.ob, P) (hS : SR E S Z j L) (hF : FRR E S Z j F T) : Sound E T S Z j (.call c) out := by
  obtain ⟨vs, k1, k2⟩ := hF.evs ha
  cases k2 with
  | cons hs k2 => cases k2 with
    | cons hx k2 =>
      cases k2
      rename_i sv xv
      unfold vappend at h
      split at h
      · rename_i sz ag elem esz zs sz2 ag2 e2 esz2 zs2 ty nb k f hi0 hi1
        obtain ⟨i, hti⟩ := vt_ok hT hi0
        obtain ⟨ui, htu⟩ := vt_ok hT hi1
        obtain ⟨hgs, e, he⟩ := dOk_slice hti.d
        have hgu := (dOk_slice htu.d).1
        have hep : 0 < esz := by rw [← he.size]; exact he.pos
        have ev : ∀ new, lenValL xv = some k → cellsOfL E esz k xv S = some new → ∀ cF dF, evOp E cF dF T S (.call c) = appendL E e elem sv new k S := by
          intro new h1 h2 cF dF
          show ob (T.evs c.args.toList) _ = _
          rw [k1, hc, ht]
          show ob (E.ti.get t) _ = _
          rw [hti.get]
          show ob (E.ti.get u) _ = _
          rw [htu.get]
          show ob (sliceD i.desc) _ = _
          rw [hgs]
          show ob (E.ti.get elem) _ = _
          rw [he.get]
          show bf (isIntD ui.desc) _ _ = _
          rw [hgu]
          show ob (lenValL xv) _ = _
          rw [h1]
          show ob (cellsOfL E e.size k xv S) _ = _
          rw [he.size, h2]; rfl
        cases z with
        | true =>
          cases hsl : isSl s with
          | false => rw [hsl] at h; cases h
          | true =>
          rw [hsl] at h
          cases h
          have h0 := ho (k = 0) (by simp)
          subst h0
          cases hx with
          | p hx =>
            obtain ⟨new, g, h1, h2, h3, _⟩ := lst_cells hx hep (fun i hi => absurd hi (Nat.not_lt_zero i))
            refine ⟨sv, S, Z, j, fun cF dF => ?_, hS, hF, hs, Ex.refl _ _ _, fun h => h, fun _ => rfl, fun h => (by cases h), fun i b h0 h1 => (by rw [h0] at h1; cases h1), fun i b _ h => h⟩
            rw [ev new h1 h2]
            have : ∃ q, sliceOf sv = some q := by
              unfold isSl at hsl
              split at hsl
              · cases hs with | p hs => cases hs <;> exact ⟨_, rfl⟩
              · cases hs with | p hs => cases hs; exact ⟨_, rfl⟩
              · cases hs; exact ⟨_, rfl⟩
              · cases hs <;> exact ⟨_, rfl⟩
              · cases hsl
            obtain ⟨q, hq⟩ := this
            show ob (sliceOf sv) _ = _
            rw [hq]; rfl
        | false =>
          simp only [cond_false] at h
          have ev2 : ∀ (q : Option Addr × Nat × Nat) (new : List Value), sliceOf sv = some q → 0 < k → q.2.1 + k ≤ 1048576 → new.length = k * esz → new.all scalar = true →
              appendL E e elem sv new k S = Option.rec (gd (Nat.beq q.2.1 0 && Nat.beq q.2.2 0) (some (.slice (some ⟨S.size, 0, some 0⟩) k k, S.new (.cells new elem)))) (fun a => appendA E e elem a q.2.1 q.2.2 new k S) q.1 := by
            intro q new h1 h2 h3 h4 h5
            show ob (sliceOf sv) _ = _
            rw [h1]
            show bf (Nat.beq k 0) _ (gd (Nat.ble (Nat.add q.2.1 k) 1048576 && (Nat.ble e.bytes 4096 && (Nat.blt 0 e.size && (new.all scalar && (Nat.beq e.zero.cells.size e.size && Nat.beq new.length (k * e.size)))))) _) = _
            rw [beq_ne (by omega), show Nat.ble (Nat.add q.2.1 k) 1048576 = true from ble_t h3, he.bytes, h5, he.zero, h4, he.size, Nat.beq_refl, show Nat.blt 0 esz = true by simpa using hep]; rfl
          split at h
          · -- to nil
            cases h
            have o1 := ho (0 < k) (by simp)
            have o2 := ho (k ≤ 1048576) (by simp)
            have o3 := ho (∀ i, i < k → (f i).length = esz) (by simp)
            cases hx with
            | p hx =>
              obtain ⟨new, g, h1, h2, h3, h4, h5, h6⟩ := lst_cells hx hep o3
              cases hs with
              | p hs => cases hs with
                | nil =>
                  refine ⟨.slice (some ⟨S.size, 0, some 0⟩) k k, S.new (.cells new elem), Z, ext j (nx L) S.size, fun cF dF => ?_, hS.new ⟨new, g, cells_new, h3, h5, fun i hi => (h6 i hi).mono (zle_new hS _)⟩, hF.new hS _, ?_, Ex.new hS _, fun h => Nat.le_succ_of_le h, fun _ => rfl, fun h => (by cases h), fun i b h0 h1 => ext_new h0 h1, fun i b _ h => hS.ext_le _ i b h⟩
                  · rw [ev new h1 h2, ev2 (none, 0, 0) new rfl o1 (by simpa using o2) h3 h4]; rfl
                  · have := VR.sl (E := E) (S := S.new (.cells new elem)) (Z := Z) (sz := esz) (off := 0) (n := k) (cap := k) (ex := 0) (nm_self j (nx L) S.size)
                    rw [Nat.zero_mul] at this
                    exact this
          · -- to an empty one
            cases h
            have o1 := ho (0 < k) (by simp)
            have o2 := ho (k ≤ 1048576) (by simp)
            have o3 := ho (∀ i, i < k → (f i).length = esz) (by simp)
            cases hx with
            | p hx =>
              obtain ⟨new, g, h1, h2, h3, h4, h5, h6⟩ := lst_cells hx hep o3
              cases hs with
              | p hs => cases hs with
                | emp hz hcc hoo =>
                  rename_i b o cs t'
                  refine ⟨.slice (some ⟨S.size, 0, some 0⟩) k k, S.new (.cells new elem), Z, ext j (nx L) S.size, fun cF dF => ?_, hS.new ⟨new, g, cells_new, h3, h5, fun i hi => (h6 i hi).mono (zle_new hS _)⟩, hF.new hS _, ?_, Ex.new hS _, fun h => Nat.le_succ_of_le h, fun _ => rfl, fun h => (by cases h), fun i b h0 h1 => ext_new h0 h1, fun i b _ h => hS.ext_le _ i b h⟩
                  · rw [ev new h1 h2, ev2 (some ⟨b, o, none⟩, 0, 0) new rfl o1 (by simpa using o2) h3 h4]
                    show appendA E e elem ⟨b, o, none⟩ 0 0 new k S = _
                    unfold appendA
                    show ob (rdc E S b) _ = _
                    rw [hcc]
                    show bf (Nat.ble (Nat.add 0 k) 0) _ (ob (cut cs o (0 * e.size)) _) = _
                    rw [show Nat.ble (Nat.add 0 k) 0 = false by
                      cases hb : Nat.ble (Nat.add 0 k) 0 with
                      | false => rfl
                      | true => have h9 : 0 + k ≤ 0 := ble_le hb; omega, Nat.zero_mul, cut_at (by omega)]
                    show some (Value.slice (some ⟨S.size, 0, some 0⟩) (Nat.add 0 k) (Nat.add 0 k), S.new (.cells ((cs.drop o).take 0 ++ new) elem)) = _
                    rw [List.take_zero, List.nil_append, show Nat.add 0 k = k from Nat.zero_add k]
                  · have := VR.sl (E := E) (S := S.new (.cells new elem)) (Z := Z) (sz := esz) (off := 0) (n := k) (cap := k) (ex := 0) (nm_self j (nx L) S.size)
                    rw [Nat.zero_mul] at this
                    exact this
          · rename_i b sz off n cp ex
            split at h
            · rename_i m sz' g0 t' hbk
              cases hs with
              | sl hj =>
                rename_i b'
                obtain ⟨b2, e1, cs, gg, h7, h8, h9, h10⟩ := hS.blk _ _ hbk id
                rw [hj] at e1; cases e1
                cases hex : Nat.beq ex 1 with
                | true =>
                  rw [hex] at h
                  cases h
                  have o1 := ho (0 < k) (by simp)
                  have o2 := ho (n + k ≤ 1048576) (by simp)
                  have o3 := ho (∀ i, i < k → (f i).length = esz) (by simp)
                  have o4 := ho (sz = esz) (by simp)
                  have o5 := ho (sz' = esz) (by simp)
                  have o6 := ho (n + k ≤ cp) (by simp)
                  have o7 := ho (off + n + k ≤ m) (by simp)
                  obtain rfl := beq_eq hex
                  subst o4
                  subst o5
                  cases hx with
                  | p hx =>
                    obtain ⟨new, g, h1, h2, h3, h4, h5, h6⟩ := lst_cells hx hep o3
                    have hin : (off + n) * sz' + new.length ≤ cs.length := by
                      rw [h3, h8, ← Nat.add_mul]
                      exact Nat.mul_le_mul_right _ o7
                    refine ⟨.slice (some ⟨b', off * sz', none⟩) (n + k) cp, S.put b' (.cells _ t'), Z, j, fun cF dF => ?_, hS.put hbk hj ⟨cs.take ((off + n) * sz') ++ new ++ cs.drop ((off + n) * sz' + new.length), fun i => if off + n ≤ i ∧ i < off + n + k then g (i - (off + n)) else gg i, cells_put, ?_, fun i hi => ?_, fun i hi => ?_⟩, hF.mono' (zle_put hS hj _) (fun _ _ h => h), .sl hj, Ex.put hS hj _, fun h => Nat.le_trans (Nat.min_le_right _ _) h, fun h => (by cases h), fun _ => ⟨b', hj, ?_, _, rfl⟩, fun i b h0 h1 => (by rw [h0] at h1; cases h1), fun i b _ h => h⟩
                    · rw [ev new h1 h2, ev2 (some ⟨b', off * sz', none⟩, n, cp) new rfl o1 o2 h3 h4]
                      show appendA E e elem ⟨b', off * sz', none⟩ n cp new k S = _
                      unfold appendA
                      rw [hS.rda hj h7]
                      show bf (Nat.ble (Nat.add n k) cp) (ob (S.cells b') _) _ = _
                      rw [show Nat.ble (Nat.add n k) cp = true from ble_t o6, h7]
                      show ob (paste cs (off * sz' + n * e.size) new) _ = _
                      rw [he.size, ← Nat.add_mul, pst_some hin]; rfl
                    · rw [← h8]; simp only [List.length_append, List.length_take, List.length_drop]; omega
                    · show cut _ _ _ = some (if off + n ≤ i ∧ i < off + n + k then g (i - (off + n)) else gg i)
                      by_cases hc1 : off + n ≤ i ∧ i < off + n + k
                      · rw [if_pos hc1, cut_paste_eq hin (Nat.mul_le_mul_right _ hc1.1) (by rw [h3, ← Nat.add_mul]; exact mul_step hc1.2), ← Nat.sub_mul]
                        have := h5 (i - (off + n)) (by omega)
                        rw [cut_at (cut_end this)] at this
                        exact this
                      · rw [if_neg hc1, cut_paste_ne hin ?_]
                        · exact h9 i hi
                        · rw [h3, ← Nat.add_mul]
                          by_cases hc2 : off + n ≤ i
                          · right; exact Nat.mul_le_mul_right _ (by omega)
                          · left; exact mul_step (by omega)
                    · show PRs E _ _ (bif Nat.ble (off + n) i && Nat.blt i (off + n + k) then f (i - (off + n)) else g0 i) (if off + n ≤ i ∧ i < off + n + k then g (i - (off + n)) else gg i)
                      by_cases hc1 : off + n ≤ i ∧ i < off + n + k
                      · rw [if_pos hc1, ble_t hc1.1, show Nat.blt i (off + n + k) = true by simpa using hc1.2]
                        exact (h6 _ (by omega)).mono (zle_put hS hj _)
                      · rw [if_neg hc1, show (Nat.ble (off + n) i && Nat.blt i (off + n + k)) = false by
                          cases hb : (Nat.ble (off + n) i && Nat.blt i (off + n + k)) with
                          | false => rfl
                          | true =>
                            simp only [Bool.and_eq_true] at hb
                            exact absurd ⟨ble_le hb.1, blt_lt hb.2⟩ hc1]
                        exact (h10 i hi).mono (zle_put hS hj _)
                    · show storeCall T c = _
                      unfold storeCall
                      rw [hc, k1]
                      cases hx <;> rfl
                | false =>
                  rw [hex] at h
                  cases hte : Nat.beq t' elem with
                  | false => rw [hte] at h; cases h
                  | true =>
                    rw [hte] at h
                    cases h
                    have o1 := ho (0 < k) (by simp)
                    have o2 := ho (n + k ≤ 1048576) (by simp)
                    have o3 := ho (∀ i, i < k → (f i).length = esz) (by simp)
                    have o4 := ho (sz = esz) (by simp)
                    have o5 := ho (sz' = esz) (by simp)
                    have o6 := ho (cp < n + k) (by simp)
                    have o7 := ho (off + n ≤ m) (by simp)
                    obtain rfl := beq_eq hte
                    subst o4
                    subst o5
                    cases hx with
                    | p hx =>
                      obtain ⟨new, g, h1, h2, h3, h4, h5, h6⟩ := lst_cells hx hep o3
                      have hin : off * sz' + n * sz' ≤ cs.length := by
                        rw [h8, ← Nat.add_mul]; exact Nat.mul_le_mul_right _ o7
                      have hold := cut_at hin
                      generalize hS1 : S.spent ⟨b', off * sz', bif Nat.beq ex 0 then some 0 else none⟩ = S1
                      have f1 : S1.size = S.size ∧ (∀ c, c ≠ b' → S1.heap.get c = S.heap.get c) ∧ (S1.low = S.low ∨ S1.low = Nat.min b' S.low) := by
                        subst hS1
                        cases Nat.beq ex 0 with
                        | true => exact ⟨rfl, fun c hc => by show (S.put b' .dead).heap.get c = _; rw [get_put, if_neg hc], .inr rfl⟩
                        | false => exact ⟨rfl, fun c hc => rfl, .inl rfl⟩
                      obtain ⟨f1, f2, f3⟩ := f1
                      obtain ⟨f4, f5⟩ := hS.giveUp (S1 := S1) hj f1 f2
                      have f6 := Ex.giveUp (Z := Z) hj f1 f2 f3
                      have f7 : ∀ (Q : List Value), ∀ i b'', jrm j b i = some b'' → ext (jrm j b) (nx L) S1.size i = some b'' := fun _ i b'' hi => by
                        unfold ext
                        by_cases e : i = nx L
                        · subst e; rw [f4.dom _ (bk_gone L b)] at hi; cases hi
                        · rw [if_neg e]; exact hi
                      have f8 : Ex S1 Z (jrm j b) (S1.new (.cells ((cs.drop (off * sz')).take (n * sz') ++ new) t')) Z (ext (jrm j b) (nx L) S1.size) := by
                        refine ⟨Nat.le_succ _, fun b hb _ => by rw [get_new, if_neg (by omega)], fun b h => h, fun b h => .inl h, fun i b hi => ?_, Nat.le_refl _, fun m h _ _ => h⟩
                        unfold ext at hi
                        split at hi
                        · cases hi; exact .inl (Nat.le_refl _)
                        · exact .inr ⟨i, hi⟩
                      have f9 := zle_new f4 (.cells ((cs.drop (off * sz')).take (n * sz') ++ new) t')
                      have f10 : ZLe E S Z (S1.new (.cells ((cs.drop (off * sz')).take (n * sz') ++ new) t')) Z := fun c hc => ⟨hc, (f9 c hc).2.trans (f5 c hc).2⟩
                      have hol : ((cs.drop (off * sz')).take (n * sz')).length = n * sz' := cut_len hold
                      refine ⟨.slice (some ⟨S1.size, 0, some 0⟩) (n + k) (n + k), _, Z, ext (jrm j b) (nx L) S1.size, fun cF dF => ?_, SR.newAt (bk_gone L b) f4 ⟨_, fun i => if i < n then gg (off + i) else g (i - n), cells_new, ?_, fun i hi => ?_, fun i hi => ?_⟩, hF.purge f10 (fun i b'' hne hi => f7 [] i b'' (jrm_le i b'' hne hi)), ?_, f6.trans f8, fun h => Nat.le_succ_of_le (Nat.le_trans f6.low.1 (by rw [f1]; exact h)), fun h => (by cases h), fun h => (by cases h), fun i b h0 h1 => f1 ▸ ext_newP h0 h1, fun i b'' hne hi => f7 [] i b'' (jrm_le i b'' (hne rfl) hi)⟩
                      · rw [ev new h1 h2, ev2 (some ⟨b', off * sz', bif Nat.beq ex 0 then some 0 else none⟩, n, cp) new rfl o1 o2 h3 h4]
                        show appendA E e t' ⟨b', off * sz', bif Nat.beq ex 0 then some 0 else none⟩ n cp new k S = _
                        unfold appendA
                        rw [hS.rda hj h7]
                        show gd (Option.rec true (fun _ => Nat.beq t' t') (bif Nat.beq ex 0 then some 0 else none)) (bf (Nat.ble (Nat.add n k) cp) _ (ob (cut cs (off * sz') (n * e.size)) fun old => some (Value.slice (some ⟨S.size, 0, some 0⟩) (Nat.add n k) (Nat.add n k), (S.spent ⟨b', off * sz', bif Nat.beq ex 0 then some 0 else none⟩).new (.cells (old ++ new) t')))) = _
                        rw [show (Option.rec true (fun _ => Nat.beq t' t') (bif Nat.beq ex 0 then some 0 else none) : Bool) = true by
                          cases Nat.beq ex 0 with
                          | true => exact Nat.beq_refl _
                          | false => rfl, show Nat.ble (Nat.add n k) cp = false by
                          cases hb : Nat.ble (Nat.add n k) cp with
                          | false => rfl
                          | true => have : n + k ≤ cp := ble_le hb
                                    omega, he.size, hold, hS1, f1]
                        rfl
                      · rw [List.length_append, hol, h3, Nat.add_mul]
                      · show cut _ _ _ = some (if i < n then gg (off + i) else g (i - n))
                        by_cases hi2 : i < n
                        · rw [if_pos hi2]
                          refine cut_app_left ?_
                          have q1 := h9 (off + i) (by omega)
                          have q2 := cut_sub hold (a := i * sz') (m := sz') (mul_step hi2)
                          rw [← Nat.add_mul, q1] at q2
                          rw [cut_at (by rw [hol]; exact mul_step hi2)]
                          exact q2.symm
                        · rw [if_neg hi2]
                          have q1 := cut_app_right (a := (cs.drop (off * sz')).take (n * sz')) (h5 (i - n) (by omega))
                          rw [hol, ← Nat.add_mul, show n + (i - n) = i by omega] at q1
                          exact q1
                      · show PRs E _ _ (bif Nat.blt i n then g0 (off + i) else f (i - n)) (if i < n then gg (off + i) else g (i - n))
                        by_cases hi2 : i < n
                        · rw [if_pos hi2, show Nat.blt i n = true by simpa using hi2]
                          exact (h10 _ (by omega)).mono f10
                        · rw [if_neg hi2, show Nat.blt i n = false by
                            cases hb : Nat.blt i n with
                            | false => rfl
                            | true => exact absurd (blt_lt hb) hi2]
                          exact (h6 _ (by omega)).mono f10
                      · have := VR.sl (E := E) (S := S1.new (.cells ((cs.drop (off * sz')).take (n * sz') ++ new) t')) (Z := Z) (sz := sz') (off := 0) (n := n + k) (cap := n + k) (ex := 0) (nm_self (jrm j b) (nx L) S1.size)
                        rw [Nat.zero_mul] at this
                        exact this
            · cases h
          · rename_i nb b sz n
            split at h
            · rename_i m sz' g0 t' hbk
              cases hte : Nat.beq t' elem with
              | false => rw [hte] at h; cases h
              | true =>
                rw [hte] at h
                cases h
                have o1 := ho (0 < k) (by simp)
                have o2 := ho (n + k ≤ 1048576) (by simp)
                have o3 := ho (∀ i, i < k → (f i).length = esz) (by simp)
                have o4 := ho (sz = esz) (by simp)
                have o5 := ho (sz' = esz) (by simp)
                have o6 := ho (n = m) (by simp)
                obtain rfl := beq_eq hte
                subst o4
                subst o5
                subst o6
                have empty : n = 0 → (∀ new, new.length = k * sz' → new.all scalar = true → lenValL xv = some k → cellsOfL E sz' k xv S = some new → ∀ cF dF, evOp E cF dF T S (.call c) = some (.slice (some ⟨S.size, 0, some 0⟩) k k, S.new (.cells new t'))) → Sound E T S Z j (.call c) ⟨[0 < k, n + k ≤ 1048576, ∀ i, i < k → (f i).length = sz', sz' = sz', sz' = sz', n = n], purgeF b F, .acc true (nx L) sz' (n + k), (nx L, .acc (n + k) sz' (fun i => bif Nat.blt i n then g0 i else f (i - n)) t') :: purgeS b (rm L b), 2, b⟩ := by
                  intro hn hev
                  subst hn
                  have f4 := hS.giveUp0 (b := b)
                  cases hx with
                  | p hx =>
                    obtain ⟨new, g, h1, h2, h3, h4, h5, h6⟩ := lst_cells hx hep o3
                    have f9 := zle_new f4 (.cells new t')
                    have f7 : ∀ i b'', jrm j b i = some b'' → ext (jrm j b) (nx L) S.size i = some b'' := fun i b'' hi => by
                      unfold ext
                      by_cases e : i = nx L
                      · subst e; rw [f4.dom _ (bk_gone L b)] at hi; cases hi
                      · rw [if_neg e]; exact hi
                    have f8 : Ex S Z (jrm j b) (S.new (.cells new t')) Z (ext (jrm j b) (nx L) S.size) := by
                      refine ⟨Nat.le_succ _, fun b hb _ => by rw [get_new, if_neg (by omega)], fun b h => h, fun b h => .inl h, fun i b hi => ?_, Nat.le_refl _, fun m h _ _ => h⟩
                      unfold ext at hi
                      split at hi
                      · cases hi; exact .inl (Nat.le_refl _)
                      · exact .inr ⟨i, hi⟩
                    have hg0 : ∀ i, (bif Nat.blt i 0 then g0 i else f (i - 0)) = f i := fun i => by
                      rw [show Nat.blt i 0 = false by
                        cases hb : Nat.blt i 0 with
                        | false => rfl
                        | true => exact absurd (blt_lt hb) (Nat.not_lt_zero i)]; rfl
                    refine ⟨.slice (some ⟨S.size, 0, some 0⟩) k k, _, Z, ext (jrm j b) (nx L) S.size, hev new h3 h4 h1 h2, SR.newAt (bk_gone L b) f4 ⟨new, g, cells_new, by rw [Nat.zero_add]; exact h3, fun i hi => h5 i (by omega), fun i hi => ?_⟩, hF.purge f9 (fun i b'' hne hi => f7 i b'' (jrm_le i b'' hne hi)), ?_, Ex.giveUp0.trans f8, fun h => Nat.le_succ_of_le h, fun h => (by cases h), fun h => (by cases h), fun i b h0 h1 => ext_newP h0 h1, fun i b'' hne hi => f7 i b'' (jrm_le i b'' (hne rfl) hi)⟩
                    · show PRs E _ _ (bif Nat.blt i 0 then g0 i else f (i - 0)) (g i)
                      rw [hg0]
                      exact (h6 i (by omega)).mono f9
                    · show VR E _ _ _ (.acc true (nx L) sz' (0 + k)) _
                      rw [Nat.zero_add]
                      exact VR.accP o1 (nm_self _ _ _)
                cases hs with
                | accN =>
                  refine empty rfl fun new h3 h4 h1 h2 cF dF => ?_
                  rw [ev new h1 h2, ev2 (none, 0, 0) new rfl o1 (by simpa using o2) h3 h4]; rfl
                | accE hz hcc hoo =>
                  rename_i b o cs tt
                  refine empty rfl fun new h3 h4 h1 h2 cF dF => ?_
                  rw [ev new h1 h2, ev2 (some ⟨b, o, none⟩, 0, 0) new rfl o1 (by simpa using o2) h3 h4]
                  show appendA E e t' ⟨b, o, none⟩ 0 0 new k S = _
                  unfold appendA
                  show ob (rdc E S b) _ = _
                  rw [hcc]
                  show bf (Nat.ble (Nat.add 0 k) 0) _ (ob (cut cs o (0 * e.size)) _) = _
                  rw [show Nat.ble (Nat.add 0 k) 0 = false by
                    cases hb : Nat.ble (Nat.add 0 k) 0 with
                    | false => rfl
                    | true => have h9 : 0 + k ≤ 0 := ble_le hb; omega, Nat.zero_mul, cut_at (by omega)]
                  show some (Value.slice (some ⟨S.size, 0, some 0⟩) (Nat.add 0 k) (Nat.add 0 k), S.new (.cells ((cs.drop o).take 0 ++ new) t')) = _
                  rw [List.take_zero, List.nil_append, show Nat.add 0 k = k from Nat.zero_add k]
                | accC hj =>
                  rename_i n0 b'
                  obtain ⟨b2, e1, cs, gg, h7, h8, h9, h10⟩ := hS.blk _ _ hbk (fun h0 => by have h0 : n0 + 1 = 0 := h0; omega)
                  rw [hj] at e1; cases e1
                  generalize hn : n0 + 1 = n at *
                  cases hx with
                  | p hx =>
                    obtain ⟨new, g, h1, h2, h3, h4, h5, h6⟩ := lst_cells hx hep o3
                    have hin : 0 + n * sz' ≤ cs.length := by
                      rw [h8, Nat.zero_add]; exact Nat.le_refl _
                    have hold := cut_at hin
                    generalize hS1 : S.spent ⟨b', 0, some 0⟩ = S1
                    have f1 : S1.size = S.size ∧ (∀ c, c ≠ b' → S1.heap.get c = S.heap.get c) ∧ (S1.low = S.low ∨ S1.low = Nat.min b' S.low) := by
                      subst hS1
                      exact ⟨rfl, fun c hc => by show (S.put b' .dead).heap.get c = _; rw [get_put, if_neg hc], .inr rfl⟩
                    obtain ⟨f1, f2, f3⟩ := f1
                    obtain ⟨f4, f5⟩ := hS.giveUp (S1 := S1) hj f1 f2
                    have f6 := Ex.giveUp (Z := Z) hj f1 f2 f3
                    have f7 : ∀ (Q : List Value), ∀ i b'', jrm j b i = some b'' → ext (jrm j b) (nx L) S1.size i = some b'' := fun _ i b'' hi => by
                      unfold ext
                      by_cases e : i = nx L
                      · subst e; rw [f4.dom _ (bk_gone L b)] at hi; cases hi
                      · rw [if_neg e]; exact hi
                    have f8 : Ex S1 Z (jrm j b) (S1.new (.cells ((cs.drop (0)).take (n * sz') ++ new) t')) Z (ext (jrm j b) (nx L) S1.size) := by
                      refine ⟨Nat.le_succ _, fun b hb _ => by rw [get_new, if_neg (by omega)], fun b h => h, fun b h => .inl h, fun i b hi => ?_, Nat.le_refl _, fun m h _ _ => h⟩
                      unfold ext at hi
                      split at hi
                      · cases hi; exact .inl (Nat.le_refl _)
                      · exact .inr ⟨i, hi⟩
                    have f9 := zle_new f4 (.cells ((cs.drop (0)).take (n * sz') ++ new) t')
                    have f10 : ZLe E S Z (S1.new (.cells ((cs.drop (0)).take (n * sz') ++ new) t')) Z := fun c hc => ⟨hc, (f9 c hc).2.trans (f5 c hc).2⟩
                    have hol : ((cs.drop (0)).take (n * sz')).length = n * sz' := cut_len hold
                    refine ⟨.slice (some ⟨S1.size, 0, some 0⟩) (n + k) (n + k), _, Z, ext (jrm j b) (nx L) S1.size, fun cF dF => ?_, SR.newAt (bk_gone L b) f4 ⟨_, fun i => if i < n then gg i else g (i - n), cells_new, ?_, fun i hi => ?_, fun i hi => ?_⟩, hF.purge f10 (fun i b'' hne hi => f7 [] i b'' (jrm_le i b'' hne hi)), ?_, f6.trans f8, fun h => Nat.le_succ_of_le (Nat.le_trans f6.low.1 (by rw [f1]; exact h)), fun h => (by cases h), fun h => (by cases h), fun i b h0 h1 => f1 ▸ ext_newP h0 h1, fun i b'' hne hi => f7 [] i b'' (jrm_le i b'' (hne rfl) hi)⟩
                    · rw [ev new h1 h2, ev2 (some ⟨b', 0, some 0⟩, n, n) new rfl o1 o2 h3 h4]
                      show appendA E e t' ⟨b', 0, some 0⟩ n n new k S = _
                      unfold appendA
                      rw [hS.rda hj h7]
                      show gd (Option.rec true (fun _ => Nat.beq t' t') (some 0)) (bf (Nat.ble (Nat.add n k) n) _ (ob (cut cs (0) (n * e.size)) fun old => some (Value.slice (some ⟨S.size, 0, some 0⟩) (Nat.add n k) (Nat.add n k), (S.spent ⟨b', 0, some 0⟩).new (.cells (old ++ new) t')))) = _
                      rw [show (Option.rec true (fun _ => Nat.beq t' t') (some 0) : Bool) = true by
                        exact Nat.beq_refl _, show Nat.ble (Nat.add n k) n = false by
                        cases hb : Nat.ble (Nat.add n k) n with
                        | false => rfl
                        | true => have : n + k ≤ n := ble_le hb
                                  omega, he.size, hold, hS1, f1]
                      rfl
                    · rw [List.length_append, hol, h3, Nat.add_mul]
                    · show cut _ _ _ = some (if i < n then gg i else g (i - n))
                      by_cases hi2 : i < n
                      · rw [if_pos hi2]
                        refine cut_app_left ?_
                        have q1 := h9 i hi2
                        have q2 := cut_sub hold (a := i * sz') (m := sz') (mul_step hi2)
                        rw [Nat.zero_add, q1] at q2
                        rw [cut_at (by rw [hol]; exact mul_step hi2)]
                        exact q2.symm
                      · rw [if_neg hi2]
                        have q1 := cut_app_right (a := (cs.drop (0)).take (n * sz')) (h5 (i - n) (by omega))
                        rw [hol, ← Nat.add_mul, show n + (i - n) = i by omega] at q1
                        exact q1
                    · show PRs E _ _ (bif Nat.blt i n then g0 i else f (i - n)) (if i < n then gg i else g (i - n))
                      by_cases hi2 : i < n
                      · rw [if_pos hi2, show Nat.blt i n = true by simpa using hi2]
                        exact (h10 _ (by omega)).mono f10
                      · rw [if_neg hi2, show Nat.blt i n = false by
                          cases hb : Nat.blt i n with
                          | false => rfl
                          | true => exact absurd (blt_lt hb) hi2]
                        exact (h6 _ (by omega)).mono f10
                    · exact VR.accP (by omega) (nm_self _ _ _)
            · cases h
          · cases h
      · cases h
theorem SR.same {i b : Nat} {vb w : VB} (hS : SR E S Z j L) (hi : bk L i = some w) (hj : j i = some b) (hb : BR E S Z j b vb) : SR E S Z j (up L i vb) := by
  refine ⟨hS.zlt, hS.jlt, hS.inj, fun k hk => ?_, fun k vb' hk => ?_, hS.rom⟩
  · rw [bk_up hi] at hk
    split at hk
    · cases hk
    · exact hS.dom k hk
  · rw [bk_up hi] at hk
    split at hk
    · rename_i e; cases hk; subst e; exact .inr ⟨b, hj, hb⟩
    · exact hS.blk' k vb' hk
theorem vclear_ok {c : Call} {t : Nat} {s : AV} {out : VOut} (hT : TabOK E tb = true) (hc : c.callee = .builtin .clear) (ht : c.argTypes.toList = [t]) (ha : avs F c.args.toList = some [s]) (h : vclear tb F L (nx L) t s = some out) (ho : ∀ P ∈ out.ob, P) (hS : SR E S Z j L) (hF : FRR E S Z j F T) : Sound E T S Z j (.call c) out := by
  obtain ⟨vs, k1, k2⟩ := hF.evs ha
  cases k2 with
  | cons hs k2 =>
    cases k2
    rename_i sv
    unfold vclear at h
    split at h
    · rename_i sz ag elem esz zs b sz1 off n cp ex hi0
      split at h
      · rename_i ve m sz' g t' hve hbk
        cases h
        obtain ⟨i, hti⟩ := vt_ok hT hi0
        obtain ⟨hgs, e, he⟩ := dOk_slice hti.d
        obtain ⟨e', hte⟩ := vt_ok hT hve
        have : e' = e := by have := hte.get; rw [he.get] at this; cases this; rfl
        subst this
        have o1 := ho (off + n ≤ m) (by simp)
        have o2 := ho (sz1 = esz) (by simp)
        have o3 := ho (sz' = esz) (by simp)
        subst o2
        subst o3
        have hz := zOks_prs (E := E) (S := S) (Z := Z) hte.zero
        cases hs with
        | sl hj =>
          rename_i b'
          obtain ⟨b2, e1, cs, gg, h7, h8, h9, h10⟩ := hS.blk _ _ hbk id
          rw [hj] at e1; cases e1
          have ev : ∀ cF dF, evOp E cF dF T S (.call c) = bf (Nat.beq n 0) (some (.tuple #[], S)) (ob (S.cells b') fun c => gd (e'.zero.cells.toList.all scalar) (ob (paste c.1 (off * sz') (zeros e'.zero.cells.toList n)) fun c' => some (.tuple #[], S.put b' (.cells c' c.2)))) := by
            intro cF dF
            show ob (T.evs c.args.toList) _ = _
            rw [k1, hc, ht]
            show ob (E.ti.get t) _ = _
            rw [hti.get]
            show ob (sliceD i.desc) _ = _
            rw [hgs]
            show bf (Nat.beq n 0) _ (ob (E.ti.get elem) _) = _
            rw [he.get]; rfl
          by_cases hn : n = 0
          · subst hn
            refine ⟨.tuple #[], S, Z, j, fun cF dF => by rw [ev]; rfl, hS.same hbk hj ⟨cs, gg, h7, h8, h9, fun k hk => ?_⟩, hF, .tup .nil, Ex.refl _ _ _, fun h => h, fun h => (by cases h), fun h => (by cases h), fun i b h0 h1 => (by rw [h0] at h1; cases h1), fun i b _ h => h⟩
            show PRs E S Z (bif Nat.ble off k && Nat.blt k (off + 0) then _ else g k) (gg k)
            rw [show (Nat.ble off k && Nat.blt k (off + 0)) = false by
              cases hb : (Nat.ble off k && Nat.blt k (off + 0)) with
              | false => rfl
              | true =>
                simp only [Bool.and_eq_true] at hb
                have h1 := ble_le hb.1; have h2 := blt_lt hb.2; omega]
            exact h10 k hk
          · have hzl : (zeros e'.zero.cells.toList n).length = n * sz' := by rw [zeros_len, zero_len he]
            have hin : off * sz' + (zeros e'.zero.cells.toList n).length ≤ cs.length := by
              rw [hzl, h8, ← Nat.add_mul]; exact Nat.mul_le_mul_right _ o1
            refine ⟨.tuple #[], S.put b' (.cells (cs.take (off * sz') ++ zeros e'.zero.cells.toList n ++ cs.drop (off * sz' + (zeros e'.zero.cells.toList n).length)) t'), Z, j, fun cF dF => ?_, hS.put hbk hj ⟨_, fun i => if off ≤ i ∧ i < off + n then e'.zero.cells.toList else gg i, cells_put, ?_, fun i hi => ?_, fun i hi => ?_⟩, hF.mono' (zle_put hS hj _) (fun _ _ h => h), .tup .nil, Ex.put hS hj _, fun h => Nat.le_trans (Nat.min_le_right _ _) h, fun h => (by cases h), fun h => (by cases h), fun i b h0 h1 => (by rw [h0] at h1; cases h1), fun i b _ h => h⟩
            · rw [ev, show Nat.beq n 0 = false from beq_ne hn, h7]
              show gd (e'.zero.cells.toList.all scalar) _ = _
              rw [hz.scalars]
              show ob (paste cs (off * sz') _) _ = _
              rw [pst_some hin]; rfl
            · rw [← h8]; simp only [List.length_append, List.length_take, List.length_drop]; omega
            · show cut _ _ _ = some (if off ≤ i ∧ i < off + n then _ else gg i)
              by_cases hc1 : off ≤ i ∧ i < off + n
              · rw [if_pos hc1, cut_paste_eq hin (Nat.mul_le_mul_right _ hc1.1) (by rw [hzl, ← Nat.add_mul]; exact mul_step hc1.2), ← Nat.sub_mul]
                have := cut_zeros e'.zero.cells.toList n (i - off) (by omega)
                rw [zero_len he] at this
                rw [cut_at (cut_end this)] at this
                exact this
              · rw [if_neg hc1, cut_paste_ne hin ?_]
                · exact h9 i hi
                · rw [hzl, ← Nat.add_mul]
                  by_cases hc2 : off ≤ i
                  · right; exact Nat.mul_le_mul_right _ (by omega)
                  · left; exact mul_step (by omega)
            · show PRs E _ _ (bif Nat.ble off i && Nat.blt i (off + n) then _ else g i) (if off ≤ i ∧ i < off + n then _ else gg i)
              by_cases hc1 : off ≤ i ∧ i < off + n
              · rw [if_pos hc1, ble_t hc1.1, show Nat.blt i (off + n) = true by simpa using hc1.2]
                exact hz.mono (zle_put hS hj _)
              · rw [if_neg hc1, show (Nat.ble off i && Nat.blt i (off + n)) = false by
                  cases hb : (Nat.ble off i && Nat.blt i (off + n)) with
                  | false => rfl
                  | true =>
                    simp only [Bool.and_eq_true] at hb
                    exact absurd ⟨ble_le hb.1, blt_lt hb.2⟩ hc1]
                exact (h10 i hi).mono (zle_put hS hj _)
      · cases h
    · cases h
theorem vmakeMap_ok {t : Nat} {out : VOut} (h : vmakeMap tb F L (nx L) t = some out) (hS : SR E S Z j L) (hF : FRR E S Z j F T) : Sound E T S Z j (.makeMap t none) out := by
  unfold vmakeMap at h
  split at h
  · cases h
    refine ⟨.map (some S.size), S.new (.map []), Z, ext j (nx L) S.size, fun cF dF => rfl, hS.new ⟨[], ?_, fun _ => rfl⟩, hF.new hS _, .map (nm_self _ _ _), Ex.new hS _, fun h => Nat.le_succ_of_le h, fun _ => rfl, fun h => (by cases h), fun i b h0 h1 => ext_new h0 h1, fun i b _ h => hS.ext_le _ i b h⟩
    show (S.heap.set S.size (.map [])).get S.size = _
    rw [Tr.get_set, if_pos rfl]; rfl
  · cases h
theorem mput_set {k v : Int} : ∀ {l : List (Int × Int)} {i n : Nat} {x : Value}, findL (.int .i64 k) (encM l) n = some (some (i, x)) → n ≤ i ∧ (encM l).set (i - n) (.int .i64 k, .int .i64 v) = encM (l.set (i - n) (k, v)) ∧ ∀ q, mget q (l.set (i - n) (k, v)) = bif q == k then some v else mget q l
  | [], i, n, x, h => by cases h
  | p :: l, i, n, x, h => by
    have e : findL (.int .i64 k) (encM (p :: l)) n = bf (k == p.1) (some (some (n, .int .i64 p.2))) (findL (.int .i64 k) (encM l) (n + 1)) := rfl
    rw [e] at h
    cases hk : k == p.1 with
    | true =>
      rw [hk] at h
      cases h
      rw [Nat.sub_self]
      refine ⟨Nat.le_refl _, rfl, fun q => ?_⟩
      have hk : k = p.1 := by simpa using hk
      show (bif q == k then some v else mget q l) = bif q == k then some v else (bif q == p.1 then some p.2 else mget q l)
      rw [← hk]
      cases q == k <;> rfl
    | false =>
      rw [hk] at h
      obtain ⟨h1, h2, h3⟩ := mput_set (v := v) (show findL (.int .i64 k) (encM l) (n + 1) = some (some (i, x)) from h)
      obtain ⟨m, hm⟩ : ∃ m, i - n = m + 1 := ⟨i - n - 1, by omega⟩
      have hm2 : i - (n + 1) = m := by omega
      rw [hm2] at h2 h3
      rw [hm]
      refine ⟨by omega, congrArg ((Value.int .i64 p.1, Value.int .i64 p.2) :: ·) h2, fun q => ?_⟩
      show (bif q == p.1 then some p.2 else mget q (l.set m (k, v))) = bif q == k then some v else (bif q == p.1 then some p.2 else mget q l)
      rw [h3]
      have hne : ¬ k = p.1 := by simpa using hk
      cases hq : q == p.1 with
      | false => rfl
      | true =>
        have hq : q = p.1 := by simpa using hq
        have : (q == k) = false := by simpa using fun e => hne (e.symm.trans hq)
        rw [this]; rfl
theorem mput_new {k v : Int} : ∀ {l : List (Int × Int)} {n : Nat}, findL (.int .i64 k) (encM l) n = some none → (encM l) ++ [(.int .i64 k, .int .i64 v)] = encM (l ++ [(k, v)]) ∧ ∀ q, mget q (l ++ [(k, v)]) = bif q == k then some v else mget q l
  | [], n, h => ⟨rfl, fun q => rfl⟩
  | p :: l, n, h => by
    have e : findL (.int .i64 k) (encM (p :: l)) n = bf (k == p.1) (some (some (n, .int .i64 p.2))) (findL (.int .i64 k) (encM l) (n + 1)) := rfl
    rw [e] at h
    cases hk : k == p.1 with
    | true => rw [hk] at h; cases h
    | false =>
      rw [hk] at h
      obtain ⟨h1, h2⟩ := mput_new (v := v) (show findL (.int .i64 k) (encM l) (n + 1) = some none from h)
      refine ⟨congrArg ((Value.int .i64 p.1, Value.int .i64 p.2) :: ·) h1, fun q => ?_⟩
      show (bif q == p.1 then some p.2 else mget q (l ++ [(k, v)])) = bif q == k then some v else (bif q == p.1 then some p.2 else mget q l)
      rw [h2]
      have hne : ¬ k = p.1 := by simpa using hk
      cases hq : q == p.1 with
      | false => rfl
      | true =>
        have hq : q = p.1 := by simpa using hq
        have : (q == k) = false := by simpa using fun e => hne (e.symm.trans hq)
        rw [this]; rfl
theorem vmapUpd_ok {t : Nat} {m k v : Operand} {a b c : AV} {out : VOut} (hT : TabOK E tb = true) (hm : av F m = some a) (hk : av F k = some b) (hv : av F v = some c) (h : vmapUpd tb F L t a b c = some out) (hS : SR E S Z j L) (hF : FRR E S Z j F T) : Sound E T S Z j (.mapUpdate t m k v) out := by
  unfold vmapUpd at h
  split at h
  · rename_i sz ag zs i p q hi0
    obtain ⟨ti, hti⟩ := vt_ok hT hi0
    obtain ⟨kt, et, xk, xe, hd, hgk, hdk, hge, hz⟩ := dOk_mapI hti.d
    split at h
    · rename_i f hb
      cases h
      obtain ⟨vm, m1, m2⟩ := hF.ev hm
      obtain ⟨vk, k1, k2⟩ := hF.ev hk
      obtain ⟨vv, v1, v2⟩ := hF.ev hv
      cases m2 with
      | map hj =>
        rename_i b'
        obtain ⟨b2, h1, l, h2, h3⟩ := hS.blk _ _ hb id
        obtain rfl : b' = b2 := Option.some.inj (hj.symm.trans h1)
        cases k2 with
        | p k2 => cases k2 with
          | int =>
            cases v2 with
            | p v2 => cases v2 with
              | int =>
                obtain ⟨r, h4, h5⟩ := findL_enc p l 0
                have e : ∀ cF dF, evOp E cF dF T S (.mapUpdate t m k v) = some (undef, S.put b' (.map (putEs (encM l) (.int .i64 p) (.int .i64 q) r))) := by
                  intro cF dF
                  show ob (T.ev m) _ = _
                  rw [m1]
                  show ob (T.ev k) _ = _
                  rw [k1]
                  show ob (T.ev v) _ = _
                  rw [v1]
                  show ob (mapPutL E t (.map (some b')) (.int .i64 p) (.int .i64 q) S) _ = _
                  unfold mapPutL
                  rw [hti.get]
                  show ob (ob (mapD ti.desc) _) _ = _
                  rw [hd]
                  show ob (ob (E.ti.get kt) _) _ = _
                  rw [hgk]
                  show ob (ob (ob (S.heap.get b') mapO) _) _ = _
                  rw [h2]
                  show ob (gd (keyKind xk.desc _) (ob (findL (.int .i64 p) (encM l) 0) _)) _ = _
                  rw [hdk, h4]; rfl
                have hl : ∃ l', putEs (encM l) (.int .i64 p) (.int .i64 q) r = encM l' ∧ ∀ x, mget x l' = bif x == p then some q else f x := by
                  cases r with
                  | none =>
                    obtain ⟨g1, g2⟩ := mput_new (v := q) h4
                    exact ⟨_, g1, fun x => by rw [g2, h3]⟩
                  | some y =>
                    obtain ⟨g0, g1, g2⟩ := mput_set (v := q) (show findL (.int .i64 p) (encM l) 0 = some (some (y.1, y.2)) from h4)
                    exact ⟨_, g1, fun x => by rw [g2, h3]⟩
                obtain ⟨l', g1, g2⟩ := hl
                refine ⟨undef, S.put b' (.map (putEs (encM l) (.int .i64 p) (.int .i64 q) r)), Z, j, e, hS.put hb hj ⟨l', ?_, g2⟩, hF.mono' (zle_put hS hj _) (fun _ _ h => h), .junk _, Ex.put hS hj _, fun h => Nat.le_trans (Nat.min_le_right _ _) h, fun h => (by cases h), fun _ => ⟨b', hj, ?_, _, rfl⟩, fun i b h0 h1 => (by rw [h0] at h1; cases h1), fun i b _ h => h⟩
                · show (S.heap.set b' _).get b' = _
                  rw [Tr.get_set, if_pos rfl, g1]
                · show ob (T.ev m) refOf = _
                  rw [m1]; rfl
    · cases h
  · cases h
theorem vopS_ok {o : Op} {z : Bool} {out : VOut} (hT : TabOK E tb = true) (h : vopS tb F L z o = some out) (ho : ∀ P ∈ out.ob, P) (hS : SR E S Z j L) (hF : FRR E S Z j F T) : Sound E T S Z j o out := by
  cases o with
  | alloc t => exact valloc_ok hT ((forceN_eq (nx L) fun q => valloc tb F L q t).symm.trans h) hS hF
  | box t x =>
    simp only [vopS] at h
    split at h
    · rename_i a ha; exact vbox_ok ha ((forceN_eq (nx L) _).symm.trans h) hS hF
    · cases h
  | buildSlice t len parts => exact vbuildSlice_ok hT ((forceN_eq (nx L) fun q => vbuildSlice tb F L q t len parts.toList).symm.trans h) hS hF
  | makeSlice t x y =>
    simp only [vopS] at h
    split at h
    · rename_i a b ha hb; exact vmakeSlice_ok hT ha hb ((forceN_eq (nx L) _).symm.trans h) ho hS hF
    · cases h
  | store t a x =>
    simp only [vopS] at h
    split at h
    · rename_i a b ha hb; exact vstore_ok hT ha hb h ho hS hF
    · cases h
  | makeMap t r =>
    cases r with
    | none => exact vmakeMap_ok ((forceN_eq (nx L) fun q => vmakeMap tb F L q t).symm.trans h) hS hF
    | some _ => cases h
  | mapUpdate t m k v =>
    simp only [vopS] at h
    split at h
    · rename_i a b c ha hb hc; exact vmapUpd_ok hT ha hb hc h hS hF
    · cases h
  | call c =>
    simp only [vopS] at h
    split at h
    · rename_i t u s x hc ht ha; exact vappend_ok hT hc ht ha ((forceN_eq (nx L) _).symm.trans h) ho hS hF
    · rename_i t s hc ht ha; exact vclear_ok hT hc ht ha ((forceN_eq (nx L) _).symm.trans h) ho hS hF
    · cases h
  | _ => cases h
end
end
end Go.Proofs.YtncpeobcgmkkbaaGreat
/- Walks over values: the calculus. -/
namespace Go.Proofs.YtncpeobcgmkkbaaGreat
noncomputable section

def Stay (st : List Nat) (j j' : Nm) : Prop := ∀ i ∈ st, ∀ b, j i = some b → j' i = some b
theorem Stay.refl (st : List Nat) (j : Nm) : Stay st j j := fun _ _ _ h => h
theorem Stay.trans {st : List Nat} {j j' j'' : Nm} (h : Stay st j j') (k : Stay st j' j'') : Stay st j j'' := fun i hi b hb => k i hi b (h i hi b hb)
/-- What is left. -/
structure Left (E : Env) (st : List Nat) (S : St) (Z : Nat → Prop) (j : Nm) (F : VK) (L : VS) (T' : Fr) (S' : St) (N : Nat) (F' : VK) (L' : VS) (Z' : Nat → Prop) (j' : Nm) : Prop where
  n : T'.n = N
  sr : SR E S' Z' j' L'
  fr : FRR E S' Z' j' F' T'
  ex : Ex S Z j S' Z' j'
  low : S'.low ≤ S'.size
  stay : Stay st j j'
abbrev VPost := LExit → VK → VS → Prop
section
variable (E : Env) (N : Nat) (st : List Nat)
def KInv (ks : List (Nat × Option Nat)) (j : Nm) (S : St) (D : Dr) (r0 i : Nat) : Prop := D.starts.length = i ∧ (∀ s ∈ D.starts, s ≤ S.size) ∧ r0 ≤ S.size ∧
  ∀ k ∈ ks, ∃ b, j k.1 = some b ∧ Option.rec (motive := fun _ => Prop) (b < r0) (fun m => r0 ≤ b ∧ b < S.size ∧ makerOf b D.starts = m + 1) k.2
def VW (rd : Option Nat) (c : Code) (F : VK) (L : VS) (Q : VPost) : Prop := ∀ T S Z j, T.n = N → SR E S Z j L → FRR E S Z j F T → S.low ≤ S.size →
  Co E c rd T S fun r => ∃ F' L' Z' j', Left E st S Z j F L r.T r.S N F' L' Z' j' ∧ Q r.ex F' L'
def VO (ops : Array Oper) (rest : List Oper) (F : VK) (L : VS) (Q : VK → VS → Prop) : Prop := ∀ T S Z j, T.n = N → SR E S Z j L → FRR E S Z j F T → S.low ≤ S.size →
  ∃ n r, (∀ m, n ≤ m → evSeq E (run E m).call (run E m).code ops rest T S = some r) ∧ ∃ F' L' Z' j', Left E st S Z j F L r.1 r.2 N F' L' Z' j' ∧ Q F' L'
def VD0 (ops : Array Oper) (bs : List Nat) (ks : List (Nat × Option Nat)) (rest : List Oper) (i : Nat) (F : VK) (L : VS) (Q : VK → VS → Prop) : Prop := ∀ T S Z j D r0, T.n = N → SR E S Z j L → FRR E S Z j F T → S.low ≤ S.size →
  DInv ops.toList bs r0 i D → ops.toList.drop i = rest → KInv ks j S D r0 i →
  ∃ n r, (∀ m, n ≤ m → evDraw E (run E m).call (run E m).code ops bs rest i D T S = some r) ∧ ∃ F' L' Z' j', Left E st S Z j F L r.1 r.2 N F' L' Z' j' ∧ Q F' L'
/-- A call. -/
def VC (f : FuncId) (args : List AV) (L : VS) (R : AV → VS → Prop) : Prop := ∀ S Z j vs, SR E S Z j L → VRs E S Z j args vs → S.low ≤ S.size →
  ∃ n v S', (∀ m, n ≤ m → (run E m).call f vs S = some (v, S')) ∧ ∃ a L' Z' j', SR E S' Z' j' L' ∧ VR E S' Z' j' a v ∧ Ex S Z j S' Z' j' ∧ S'.low ≤ S'.size ∧ Stay st j j' ∧ R a L'
end
/-- A call that only returns a value that leads to nothing that is written. -/
def VP (E : Env) (f : FuncId) (args : List AV) (r : AV) : Prop := r.only (fun _ => false) = true ∧ VC E [] f args [] fun a L => a = r ∧ L = []
inductive KI where
  | seq (b : Code)
  | block (id : Nat)
  | inv (P : VK → VS → Prop)
section
variable {E : Env} {N : Nat} {st : List Nat} {rd : Option Nat}
def KX (E : Env) (N : Nat) (st : List Nat) (rd : Option Nat) (Q : VPost) : List KI → LExit → VK → VS → Prop
  | [], e, F, L => Q e F L
  | .seq b :: K, .normal, F, L => VW E N st rd b F L (KX E N st rd Q K)
  | .seq _ :: K, e, F, L => KX E N st rd Q K e F L
  | .block id :: K, .exit k, F, L => if k = id then KX E N st rd Q K .normal F L else KX E N st rd Q K (.exit k) F L
  | .block _ :: K, e, F, L => KX E N st rd Q K e F L
  | .inv P :: _, .normal, F, L => P F L
  | .inv _ :: K, e, F, L => KX E N st rd Q K e F L
theorem VW.mono {c : Code} {F : VK} {L : VS} {Q Q' : VPost} (h : VW E N st rd c F L Q) (hq : ∀ e F L, Q e F L → Q' e F L) : VW E N st rd c F L Q' := by
  intro T S Z j h1 h2 h3 h4
  obtain ⟨n, r, h5, F', L', Z', j', h6, h7⟩ := h T S Z j h1 h2 h3 h4
  exact ⟨n, r, h5, F', L', Z', j', h6, hq _ _ _ h7⟩
theorem Left.trans {S S1 S2 : St} {Z Z1 Z2 : Nat → Prop} {j j1 j2 : Nm} {F F1 F2 : VK} {L L1 L2 : VS} {T1 T2 : Fr} (h : Left E st S Z j F L T1 S1 N F1 L1 Z1 j1) (k : Left E st S1 Z1 j1 F1 L1 T2 S2 N F2 L2 Z2 j2) : Left E st S Z j F L T2 S2 N F2 L2 Z2 j2 :=
  ⟨k.n, k.sr, k.fr, h.ex.trans k.ex, k.low, h.stay.trans k.stay⟩
theorem VW.seq {a b : Code} {F : VK} {L : VS} {Q : VPost} (h : VW E N st rd a F L fun e F' L' => match e with
    | .normal => VW E N st rd b F' L' Q
    | e => Q e F' L') : VW E N st rd (.seq a b) F L Q := by
  intro T S Z j h1 h2 h3 h4
  obtain ⟨n, r, h5, F', L', Z', j', h6, h7⟩ := h T S Z j h1 h2 h3 h4
  cases hr : r.ex with
  | normal =>
    rw [hr] at h7
    obtain ⟨n2, r2, k1, F2, L2, Z2, j2, k2, k3⟩ := h7 r.T r.S Z' j' h6.n h6.sr h6.fr h6.low
    refine ⟨n + n2 + 1, r2, fun m hm => ?_, F2, L2, Z2, j2, h6.trans k2, k3⟩
    obtain ⟨k, rfl, hk⟩ := le_succ_ex hm
    show ob ((run E (k + 1)).code a rd T S) (fun q => onNormal q ((run E (k + 1)).code b rd)) = _
    rw [h5 _ (by omega)]
    show onNormal r _ = _
    unfold onNormal
    rw [hr]
    exact k1 _ (by omega)
  | exit id =>
    rw [hr] at h7
    refine ⟨n + 1, r, fun m hm => ?_, F', L', Z', j', h6, by rw [hr]; exact h7⟩
    obtain ⟨k, rfl, hk⟩ := le_succ_ex hm
    show ob ((run E (k + 1)).code a rd T S) (fun q => onNormal q ((run E (k + 1)).code b rd)) = _
    rw [h5 _ (by omega)]
    show onNormal r _ = _
    unfold onNormal
    rw [hr]
  | ret =>
    rw [hr] at h7
    refine ⟨n + 1, r, fun m hm => ?_, F', L', Z', j', h6, by rw [hr]; exact h7⟩
    obtain ⟨k, rfl, hk⟩ := le_succ_ex hm
    show ob ((run E (k + 1)).code a rd T S) (fun q => onNormal q ((run E (k + 1)).code b rd)) = _
    rw [h5 _ (by omega)]
    show onNormal r _ = _
    unfold onNormal
    rw [hr]
theorem VW.block {id : Nat} {b : Code} {F : VK} {L : VS} {Q : VPost} (h : VW E N st rd b F L fun e F' L' => match e with
    | .exit k => if k = id then Q .normal F' L' else Q (.exit k) F' L'
    | e => Q e F' L') : VW E N st rd (.block id b) F L Q := by
  intro T S Z j h1 h2 h3 h4
  obtain ⟨n, r, h5, F', L', Z', j', h6, h7⟩ := h T S Z j h1 h2 h3 h4
  have go : ∀ k, n ≤ k → (run E (k + 1)).code (.block id b) rd T S = onExit id r := fun k hk => by
    show ob ((run E (k + 1)).code b rd T S) (onExit id) = _
    rw [h5 _ (by omega)]; rfl
  obtain ⟨ex, T1, S1⟩ := r
  cases ex with
  | normal => exact ⟨n + 1, _, fun m hm => by obtain ⟨k, rfl, hk⟩ := le_succ_ex hm; exact go k hk, F', L', Z', j', h6, h7⟩
  | ret => exact ⟨n + 1, _, fun m hm => by obtain ⟨k, rfl, hk⟩ := le_succ_ex hm; exact go k hk, F', L', Z', j', h6, h7⟩
  | exit k0 =>
    refine ⟨n + 1, ⟨bf (Nat.beq k0 id) .normal (.exit k0), T1, S1⟩, fun m hm => by obtain ⟨k, rfl, hk⟩ := le_succ_ex hm; exact go k hk, F', L', Z', j', h6, ?_⟩
    by_cases e : k0 = id
    · subst e
      simp only [if_pos] at h7
      rw [Nat.beq_refl]; exact h7
    · simp only [if_neg e] at h7
      rw [beq_ne e]; exact h7
theorem left_refl {T : Fr} {S : St} {Z : Nat → Prop} {j : Nm} {F : VK} {L : VS} (h1 : T.n = N) (h2 : SR E S Z j L) (h3 : FRR E S Z j F T) (h4 : S.low ≤ S.size) : Left E st S Z j F L T S N F L Z j :=
  ⟨h1, h2, h3, Ex.refl _ _ _, h4, Stay.refl _ _⟩
theorem VW.skip {F : VK} {L : VS} {Q : VPost} (h : Q .normal F L) : VW E N st rd .skip F L Q := fun T S Z j h1 h2 h3 h4 =>
  ⟨1, ⟨.normal, T, S⟩, fun m hm => by obtain ⟨k, rfl, _⟩ := le_succ_ex hm; rfl, F, L, Z, j, left_refl h1 h2 h3 h4, h⟩
theorem VW.ret {F : VK} {L : VS} {Q : VPost} (h : Q .ret F L) : VW E N st rd .ret F L Q := fun T S Z j h1 h2 h3 h4 =>
  ⟨1, ⟨.ret, T, S⟩, fun m hm => by obtain ⟨k, rfl, _⟩ := le_succ_ex hm; rfl, F, L, Z, j, left_refl h1 h2 h3 h4, h⟩
theorem VW.exit {id : Nat} {F : VK} {L : VS} {Q : VPost} (h : Q (.exit id) F L) : VW E N st rd (.exit id) F L Q := fun T S Z j h1 h2 h3 h4 =>
  ⟨1, ⟨.exit id, T, S⟩, fun m hm => by obtain ⟨k, rfl, _⟩ := le_succ_ex hm; rfl, F, L, Z, j, left_refl h1 h2 h3 h4, h⟩
theorem VW.cond {c : Operand} {a b : Code} {F : VK} {L : VS} {Q : VPost} {t : Bool} (hc : av F c = some (.p (.bool t))) (k1 : t = true → VW E N st rd a F L Q) (k2 : t = false → VW E N st rd b F L Q) : VW E N st rd (.cond c a b) F L Q := by
  intro T S Z j h1 h2 h3 h4
  obtain ⟨v, hv, hvr⟩ := h3.ev hc
  cases hvr with
  | p hvr =>
    cases hvr
    have go : ∀ k, (run E (k + 1)).code (.cond c a b) rd T S = bf t ((run E (k + 1)).code a rd T S) ((run E (k + 1)).code b rd T S) := fun k => by
      show ob (ob (T.ev c) boolOf) _ = _
      rw [hv]; rfl
    cases t with
    | true =>
      obtain ⟨n, r, h5, h6⟩ := k1 rfl T S Z j h1 h2 h3 h4
      refine ⟨n + 1, r, fun m hm => ?_, h6⟩
      obtain ⟨k, rfl, hk⟩ := le_succ_ex hm
      rw [go]; exact h5 _ (by omega)
    | false =>
      obtain ⟨n, r, h5, h6⟩ := k2 rfl T S Z j h1 h2 h3 h4
      refine ⟨n + 1, r, fun m hm => ?_, h6⟩
      obtain ⟨k, rfl, hk⟩ := le_succ_ex hm
      rw [go]; exact h5 _ (by omega)
theorem VW.region {id : Nat} {ops : Array Oper} {F : VK} {L : VS} {Q : VPost} (h : VO E N st ops ops.toList F L fun F' L' => Q .normal F' L') : VW E N st rd (.region id ops false) F L Q := by
  intro T S Z j h1 h2 h3 h4
  obtain ⟨n, r, h5, F', L', Z', j', h6, h7⟩ := h T S Z j h1 h2 h3 h4
  refine ⟨n + 1, ⟨.normal, r.1, r.2⟩, fun m hm => ?_, F', L', Z', j', h6, h7⟩
  obtain ⟨k, rfl, hk⟩ := le_succ_ex hm
  show ob (evSeq E (run E k).call (run E k).code ops ops.toList T S) resOf = _
  rw [h5 _ hk]; rfl
theorem bk_key : ∀ {L : VS} {k : Nat}, k ∈ L.map (·.1) → ∃ vb, bk L k = some vb
  | [], k, h => by cases h
  | (s, v) :: l, k, h => by
    rw [bk_cons]
    by_cases e : k = s
    · rw [if_pos e]; exact ⟨_, rfl⟩
    · rw [if_neg e]
      rcases List.mem_cons.1 h with h | h
      · exact absurd h e
      · exact bk_key h
def isAcc : VB → Bool
  | .acc _ _ _ _ => true
  | _ => false
theorem void_acc {vb : VB} (h : isAcc vb = false) : ¬ vb.void := by cases vb <;> first | exact id | cases h
def ksL (L : VS) : VS → List (Nat × Option Nat)
  | [] => []
  | (k, _) :: l => match bk L k with
    | some v => bif isAcc v then ksL L l else (k, none) :: ksL L l
    | none => ksL L l
theorem ksL_mem {L : VS} : ∀ {l : VS} {k : Nat × Option Nat}, k ∈ ksL L l → k.2 = none ∧ ∃ v, bk L k.1 = some v ∧ isAcc v = false
  | [], k, h => by cases h
  | (k0, _) :: l, k, h => by
    simp only [ksL] at h
    split at h
    · rename_i v hv
      cases ha : isAcc v with
      | true => rw [ha] at h; exact ksL_mem h
      | false =>
        rw [ha] at h
        rcases List.mem_cons.1 h with rfl | h
        · exact ⟨rfl, v, hv, ha⟩
        · exact ksL_mem h
    · exact ksL_mem h
theorem VW.draw {id : Nat} {ops : Array Oper} {F : VK} {L : VS} {Q : VPost} (h : VD0 E N st ops (befL ops.toList []) (ksL L L) ops.toList 0 F L fun F' L' => Q .normal F' L') : VW E N st rd (.region id ops true) F L Q := by
  intro T S Z j h1 h2 h3 h4
  obtain ⟨n, r, h5, F', L', Z', j', h6, h7⟩ := h T S Z j ⟨S.size, [], [], []⟩ S.size h1 h2 h3 h4 ⟨rfl, (fun q h => by cases h), (fun q h => by cases h)⟩ rfl ⟨rfl, (fun s h => by cases h), Nat.le_refl _, fun k hk => by
    obtain ⟨k0, k1⟩ := k
    obtain ⟨hk0, vb, hv, ha⟩ := ksL_mem hk
    have hk0 : k1 = none := hk0
    subst hk0
    obtain ⟨b, hb, _⟩ := h2.blk _ vb hv (void_acc ha)
    exact ⟨b, hb, (h2.jlt _ b hb).1⟩⟩
  refine ⟨n + 1, ⟨.normal, r.1, r.2⟩, fun m hm => ?_, F', L', Z', j', h6, h7⟩
  obtain ⟨k, rfl, hk⟩ := le_succ_ex hm
  show ob (evDraw E (run E k).call (run E k).code ops (befL ops.toList []) ops.toList 0 ⟨S.size, [], [], []⟩ T S) resOf = _
  rw [h5 _ hk]; rfl
theorem VO.nil {ops : Array Oper} {F : VK} {L : VS} {Q : VK → VS → Prop} (h : Q F L) : VO E N st ops [] F L Q := fun T S Z j h1 h2 h3 h4 =>
  ⟨0, (T, S), fun _ _ => rfl, F, L, Z, j, left_refl h1 h2 h3 h4, h⟩
theorem VD0.nil {ops : Array Oper} {bs : List Nat} {ks : List (Nat × Option Nat)} {i : Nat} {F : VK} {L : VS} {Q : VK → VS → Prop} (h : Q F L) : VD0 E N st ops bs ks [] i F L Q := fun T S Z j _ _ h1 h2 h3 h4 _ _ _ =>
  ⟨0, (T, S), fun _ _ => rfl, F, L, Z, j, left_refl h1 h2 h3 h4, h⟩
def vbind (d : Option Tmp) (a : AV) (F : VK) : VK := match d with
  | none => F
  | some d => (d, a) :: F
theorem vput_ok {T : Fr} {S : St} {Z : Nat → Prop} {j : Nm} {F : VK} {d : Option Tmp} {a : AV} {v : Value} (hN : T.n = N) (hF : FRR E S Z j F T) (hd : dstOk d N = true) (hv : VR E S Z j a v) : ∃ T', T.put d v = some T' ∧ T'.n = N ∧ FRR E S Z j (vbind d a F) T' := by
  cases d with
  | none => exact ⟨T, rfl, hN, hF⟩
  | some d =>
    obtain ⟨T', h1, h2, h3⟩ := hF.put (d := d) (by rw [hN]; exact hd) hv
    exact ⟨T', h1, h2.trans hN, h3⟩
def vgd (ops : Array Oper) (F : VK) : Option (Nat × Bool) → Option Bool
  | none => some true
  | some g => match ops.toList[g.1]? with
    | none => some false
    | some o => match o.dst with
      | none => some false
      | some d => match ak F d with
        | some (.p (.bool c)) => some (c == g.2)
        | some (.lit c) => some (c == g.2)
        | some (.tup _) => some false
        | _ => none
theorem vgd_ok {T : Fr} {S : St} {Z : Nat → Prop} {j : Nm} {ops : Array Oper} {F : VK} {g : Option (Nat × Bool)} {b : Bool} (h : vgd ops F g = some b) (hF : FRR E S Z j F T) : wantedL ops T g = some b := by
  cases g with
  | none => exact h
  | some g =>
    simp only [vgd] at h
    show wantedG ops T g = some b
    unfold wantedG
    cases ho : ops.toList[g.1]? with
    | none => rw [ho] at h; cases h; rfl
    | some o =>
      rw [ho] at h
      simp only at h
      change Option.rec (motive := fun _ => Option Bool) (some false) (fun d => ob (T.t.get d) fun v => some (Option.rec false (fun b => b == g.2) (boolOf v))) o.dst = _
      cases hd : o.dst with
      | none => rw [hd] at h; cases h; rfl
      | some d =>
        rw [hd] at h
        simp only at h
        split at h
        · rename_i c hc
          cases h
          obtain ⟨v, h1, h2⟩ := hF d _ hc
          cases h2 with
          | p h2 =>
            cases h2
            show ob (T.t.get d) _ = _
            rw [h1]; rfl
        · rename_i c hc
          cases h
          obtain ⟨v, h1, h2⟩ := hF d _ hc
          cases h2
          show ob (T.t.get d) _ = _
          rw [h1]; rfl
        · rename_i c hc
          cases h
          obtain ⟨v, h1, h2⟩ := hF d _ hc
          cases h2
          show ob (T.t.get d) _ = _
          rw [h1]; rfl
        · cases h
theorem op_keep {tb : Tab} {ops : Array Oper} {o : Oper} {F : VK} {L : VS} {obs : List Prop} {a : AV} (hT : TabOK E tb = true) (hg : vgd ops F o.guard = some true) (hd : dstOk o.dst N = true) (h : vopP tb F L o.op = some (obs, a)) (ho : ∀ P ∈ obs, P)
    {T : Fr} {S : St} {Z : Nat → Prop} {j : Nm} (h1 : T.n = N) (h2 : SR E S Z j L) (h3 : FRR E S Z j F T) : ∃ T', (∀ cF dF, stepL E cF dF ops o T S = some (T', S)) ∧ T'.n = N ∧ FRR E S Z j (vbind o.dst a F) T' := by
  obtain ⟨u, h5, h6⟩ := vopP_ok hT h ho h2 h3
  obtain ⟨T', h7, h8, h9⟩ := vput_ok h1 h3 hd h6
  refine ⟨T', fun cF dF => ?_, h8, h9⟩
  unfold stepL
  rw [vgd_ok hg h3]
  show ob (evOp E cF dF T S o.op) (putS T o.dst) = _
  rw [h5]
  show ob (T.put o.dst u) _ = _
  rw [h7]; rfl
theorem op_drop {ops : Array Oper} {o : Oper} {F : VK} {L : VS} (hg : vgd ops F o.guard = some false) (hd : dstOk o.dst N = true)
    {T : Fr} {S : St} {Z : Nat → Prop} {j : Nm} (h1 : T.n = N) (h3 : FRR E S Z j F T) : ∃ T', (∀ cF dF, stepL E cF dF ops o T S = some (T', S)) ∧ T'.n = N ∧ FRR E S Z j (vbind o.dst (.tup []) F) T' := by
  obtain ⟨T', h7, h8, h9⟩ := vput_ok h1 h3 hd (a := .tup []) (v := undef) (.tup (ws := #[]) .nil)
  refine ⟨T', fun cF dF => ?_, h8, h9⟩
  unfold stepL
  rw [vgd_ok hg h3]
  show ob (T.put o.dst undef) _ = _
  rw [h7]; rfl
theorem op_sound1 {tb : Tab} {ops : Array Oper} {o : Oper} {F : VK} {L : VS} {z : Bool} {out : VOut} (hT : TabOK E tb = true) (hg : vgd ops F o.guard = some true) (hd : dstOk o.dst N = true) (h : vopS tb F L z o.op = some out) (ho : ∀ P ∈ out.ob, P)
    {T : Fr} {S : St} {Z : Nat → Prop} {j : Nm} (h1 : T.n = N) (h2 : SR E S Z j L) (h3 : FRR E S Z j F T) : ∃ T' S' Z' j', (∀ cF dF, stepL E cF dF ops o T S = some (T', S')) ∧ T'.n = N ∧ SR E S' Z' j' out.L ∧ FRR E S' Z' j' (vbind o.dst out.a out.F) T' ∧ Ex S Z j S' Z' j' ∧
      (S.low ≤ S.size → S'.low ≤ S'.size) ∧ (out.kind = 0 → S'.low = S.low) ∧ (out.kind = 1 → ∃ b, j out.at_ = some b ∧ storeAt T o.op = some b ∧ ∃ x, S' = S.put b x) ∧ (∀ i b, j i = none → j' i = some b → S.size ≤ b) ∧ ∀ i b, (out.kind = 2 → i ≠ out.at_) → j i = some b → j' i = some b := by
  obtain ⟨u, S', Z', j', h5, h6, h7, h8, h9, h10, h11, h12, h14, h13⟩ := vopS_ok hT h ho h2 h3
  obtain ⟨T', k1, k2, k3⟩ := vput_ok h1 h7 hd h8
  refine ⟨T', S', Z', j', fun cF dF => ?_, k2, h6, k3, h9, h10, h11, h12, h14, h13⟩
  unfold stepL
  rw [vgd_ok hg h3]
  show ob (evOp E cF dF T S o.op) (putS T o.dst) = _
  rw [h5]
  show ob (T.put o.dst u) _ = _
  rw [k1]; rfl
theorem VO.keep {tb : Tab} {ops : Array Oper} {o : Oper} {rest : List Oper} {F : VK} {L : VS} {Q : VK → VS → Prop} {obs : List Prop} {a : AV} (hT : TabOK E tb = true) (hg : vgd ops F o.guard = some true) (hd : dstOk o.dst N = true) (h : vopP tb F L o.op = some (obs, a)) (ho : ∀ P ∈ obs, P)
    (hk : VO E N st ops rest (vbind o.dst a F) L Q) : VO E N st ops (o :: rest) F L Q := by
  intro T S Z j h1 h2 h3 h4
  obtain ⟨T', h5, h6, h7⟩ := op_keep hT hg hd h ho h1 h2 h3
  obtain ⟨n, r, h8, F2, L2, Z2, j2, h9, h10⟩ := hk T' S Z j h6 h2 h7 h4
  refine ⟨n, r, fun m hm => ?_, F2, L2, Z2, j2, ⟨h9.n, h9.sr, h9.fr, h9.ex, h9.low, h9.stay⟩, h10⟩
  show ob (stepL E _ _ ops o T S) _ = _
  rw [h5]
  exact h8 m hm
theorem VO.drop {ops : Array Oper} {o : Oper} {rest : List Oper} {F : VK} {L : VS} {Q : VK → VS → Prop} (hg : vgd ops F o.guard = some false) (hd : dstOk o.dst N = true)
    (hk : VO E N st ops rest (vbind o.dst (.tup []) F) L Q) : VO E N st ops (o :: rest) F L Q := by
  intro T S Z j h1 h2 h3 h4
  obtain ⟨T', h5, h6, h7⟩ := op_drop (E := E) (L := L) hg hd h1 h3
  obtain ⟨n, r, h8, F2, L2, Z2, j2, h9, h10⟩ := hk T' S Z j h6 h2 h7 h4
  refine ⟨n, r, fun m hm => ?_, F2, L2, Z2, j2, ⟨h9.n, h9.sr, h9.fr, h9.ex, h9.low, h9.stay⟩, h10⟩
  show ob (stepL E _ _ ops o T S) _ = _
  rw [h5]
  exact h8 m hm
theorem VO.make {tb : Tab} {ops : Array Oper} {o : Oper} {rest : List Oper} {F : VK} {L : VS} {Q : VK → VS → Prop} {z : Bool} {out : VOut} (hT : TabOK E tb = true) (hg : vgd ops F o.guard = some true) (hd : dstOk o.dst N = true) (h : vopS tb F L z o.op = some out) (ho : ∀ P ∈ out.ob, P)
    (hst : Nat.beq out.kind 2 = true → (st.all fun i => !Nat.beq i out.at_) = true) (hk : VO E N st ops rest (vbind o.dst out.a out.F) out.L Q) : VO E N st ops (o :: rest) F L Q := by
  intro T S Z j h1 h2 h3 h4
  obtain ⟨T', S', Z', j', h5, h6, h7, h8, h9, h10, _, _, _, h13⟩ := op_sound1 hT hg hd h ho h1 h2 h3
  obtain ⟨n, r, k1, F2, L2, Z2, j2, k2, k3⟩ := hk T' S' Z' j' h6 h7 h8 (h10 h4)
  refine ⟨n, r, fun m hm => ?_, F2, L2, Z2, j2, ⟨k2.n, k2.sr, k2.fr, h9.trans k2.ex, k2.low, Stay.trans (fun i hi b hb => h13 i b (fun hk e => ?_) hb) k2.stay⟩, k3⟩
  · show ob (stepL E _ _ ops o T S) _ = _
    rw [h5]
    exact k1 m hm
  · have := List.all_eq_true.1 (hst (by rw [hk]; rfl)) i hi
    rw [e, Nat.beq_refl] at this; cases this
/-- The state that an operation of a drawn region sees. -/
theorem SR.at0 {S : St} {Z : Nat → Prop} {j : Nm} {L : VS} (h : SR E S Z j L) : SR E S.at0 Z j L :=
  ⟨h.zlt, h.jlt, h.inj, h.dom, fun i vb hi => by
    rcases h.blk' i vb hi with hv | ⟨b, h1, h2⟩
    · exact .inl hv
    exact .inr ⟨b, h1, h2.mono rfl (fun b hb => ⟨hb, rfl⟩) (fun _ _ h => h)⟩, h.rom⟩
theorem FRR.at0 {S : St} {Z : Nat → Prop} {j : Nm} {F : VK} {T : Fr} (h : FRR E S Z j F T) : FRR E S.at0 Z j F T := h.mono' (fun b hb => ⟨hb, rfl⟩) (fun _ _ h => h)
theorem SR.back {S S1 : St} {Z : Nat → Prop} {j : Nm} {L : VS} (h : SR E S1 Z j L) : SR E (S.back S1) Z j L :=
  ⟨h.zlt, h.jlt, h.inj, h.dom, fun i vb hi => by
    rcases h.blk' i vb hi with hv | ⟨b, h1, h2⟩
    · exact .inl hv
    exact .inr ⟨b, h1, h2.mono rfl (fun b hb => ⟨hb, rfl⟩) (fun _ _ h => h)⟩, h.rom⟩
theorem FRR.back {S S1 : St} {Z : Nat → Prop} {j : Nm} {F : VK} {T : Fr} (h : FRR E S1 Z j F T) : FRR E (S.back S1) Z j F T := h.mono' (fun b hb => ⟨hb, rfl⟩) (fun _ _ h => h)
theorem Ex.back {S S1 : St} {Z Z1 : Nat → Prop} {j j1 : Nm} (h : Ex S.at0 Z j S1 Z1 j1) : Ex S Z j (S.back S1) Z1 j1 :=
  ⟨h.size, h.old, h.zz, h.zn, h.jn, Nat.min_le_left _ _, fun m h1 h2 h3 => Nat.le_min.2 ⟨h1, h.low.2 m h2 h2 h3⟩⟩
theorem back_at0 {S : St} (hl : S.low ≤ S.size) : S.back S.at0 = S := by
  cases S; simp only [St.back, St.at0, St.mk.injEq, true_and]; exact Nat.min_eq_left hl
theorem ops_at {ops : List Oper} {i : Nat} {o : Oper} {rest : List Oper} (h : ops.drop i = o :: rest) : ops[i]? = some o ∧ ops.drop (i + 1) = rest := by
  constructor
  · have := congrArg (·[0]?) h
    simpa [List.getElem?_drop] using this
  · have := congrArg (List.drop 1) h
    simpa [List.drop_drop] using this
theorem KInv.step {ks : List (Nat × Option Nat)} {j j' : Nm} {S S' : St} {D D' : Dr} {r0 i : Nat} (h : KInv ks j S D r0 i) (hd : D'.starts = D.starts ++ [S.size]) (hs : S.size ≤ S'.size) (hj : ∀ k b, j k = some b → j' k = some b) : KInv ks j' S' D' r0 (i + 1) := by
  obtain ⟨h1, h2, h3, h4⟩ := h
  refine ⟨by rw [hd, List.length_append, h1]; rfl, fun s hm => ?_, Nat.le_trans h3 hs, fun k hk => ?_⟩
  · rw [hd] at hm
    rcases List.mem_append.1 hm with hm | hm
    · exact Nat.le_trans (h2 s hm) hs
    · rw [List.mem_singleton.1 hm]; exact hs
  · obtain ⟨b, k1, k2⟩ := h4 k hk
    refine ⟨b, hj _ _ k1, ?_⟩
    obtain ⟨n, m⟩ := k
    cases m with
    | none => exact k2
    | some m =>
      obtain ⟨k3, k4, k5⟩ := k2
      exact ⟨k3, Nat.lt_of_lt_of_le k4 hs, by rw [hd, makerOf_lt k4]; exact k5⟩
theorem KInv.made {ks : List (Nat × Option Nat)} {j j' : Nm} {S S' : St} {D D' : Dr} {r0 i n b : Nat} (h : KInv ks j S D r0 i) (hd : D'.starts = D.starts ++ [S.size]) (hs : S.size ≤ S'.size) (hj : ∀ k b, j k = some b → j' k = some b) (hn : j' n = some b) (hb : S.size ≤ b) (hb2 : b < S'.size) : KInv ((n, some i) :: ks) j' S' D' r0 (i + 1) := by
  obtain ⟨h1, h2, h3, h4⟩ := h.step hd hs hj
  refine ⟨h1, h2, h3, fun k hk => ?_⟩
  rcases List.mem_cons.1 hk with rfl | hk
  · refine ⟨b, hn, Nat.le_trans h.2.2.1 hb, hb2, ?_⟩
    rw [makerOf_all, h1]
    intro s hs'
    rw [hd] at hs'
    rcases List.mem_append.1 hs' with hm | hm
    · exact Nat.le_trans (h.2.1 s hm) hb
    · rw [List.mem_singleton.1 hm]; exact hb
  · exact h4 k hk
theorem VD0.keep {tb : Tab} {ops : Array Oper} {bs : List Nat} {ks : List (Nat × Option Nat)} {i : Nat} {o : Oper} {rest : List Oper} {F : VK} {L : VS} {Q : VK → VS → Prop} {obs : List Prop} {a : AV} (hT : TabOK E tb = true) (hg : vgd ops F o.guard = some true) (hd : dstOk o.dst N = true) (h : vopP tb F L o.op = some (obs, a)) (ho : ∀ P ∈ obs, P)
    (hk : VD0 E N st ops bs ks rest (i + 1) (vbind o.dst a F) L Q) : VD0 E N st ops bs ks (o :: rest) i F L Q := by
  intro T S Z j D r0 h1 h2 h3 h4 hD hi hks
  obtain ⟨hi1, hi2⟩ := ops_at hi
  obtain ⟨T', h5, h6, h7⟩ := op_keep hT hg hd h ho h1 h2.at0 h3.at0
  obtain ⟨n, r, h8, F2, L2, Z2, j2, h9, h10⟩ := hk T' S Z j _ r0 h6 h2 (h7.mono' (fun b hb => ⟨hb, rfl⟩) (fun _ _ h => h)) h4 (dinv_next (T := T) (size := S.size) hi1 hD) hi2 (hks.step rfl (Nat.le_refl _) fun _ _ h => h)
  refine ⟨n, r, fun m hm => ?_, F2, L2, Z2, j2, ⟨h9.n, h9.sr, h9.fr, h9.ex, h9.low, h9.stay⟩, h10⟩
  show ob (stepL E _ _ ops o T S.at0) _ = _
  rw [h5]
  show ob (drawOk bs i T S.size S.size o.op D) (fun D' => evDraw E _ _ ops bs rest (i + 1) D' T' (S.back S.at0)) = _
  rw [drawn_ok hi1 hD (.inl (Nat.le_refl _)), back_at0 h4]
  exact h8 m hm
theorem VD0.drop {ops : Array Oper} {bs : List Nat} {ks : List (Nat × Option Nat)} {i : Nat} {o : Oper} {rest : List Oper} {F : VK} {L : VS} {Q : VK → VS → Prop} (hg : vgd ops F o.guard = some false) (hd : dstOk o.dst N = true)
    (hk : VD0 E N st ops bs ks rest (i + 1) (vbind o.dst (.tup []) F) L Q) : VD0 E N st ops bs ks (o :: rest) i F L Q := by
  intro T S Z j D r0 h1 h2 h3 h4 hD hi hks
  obtain ⟨hi1, hi2⟩ := ops_at hi
  obtain ⟨T', h5, h6, h7⟩ := op_drop (E := E) (L := L) hg hd h1 h3.at0
  obtain ⟨n, r, h8, F2, L2, Z2, j2, h9, h10⟩ := hk T' S Z j _ r0 h6 h2 (h7.mono' (fun b hb => ⟨hb, rfl⟩) (fun _ _ h => h)) h4 (dinv_next (T := T) (size := S.size) hi1 hD) hi2 (hks.step rfl (Nat.le_refl _) fun _ _ h => h)
  refine ⟨n, r, fun m hm => ?_, F2, L2, Z2, j2, ⟨h9.n, h9.sr, h9.fr, h9.ex, h9.low, h9.stay⟩, h10⟩
  show ob (stepL E _ _ ops o T S.at0) _ = _
  rw [h5]
  show ob (drawOk bs i T S.size S.size o.op D) (fun D' => evDraw E _ _ ops bs rest (i + 1) D' T' (S.back S.at0)) = _
  rw [drawn_ok hi1 hD (.inl (Nat.le_refl _)), back_at0 h4]
  exact h8 m hm
/-- What writes in a drawn region: its place is fixed, or all that is not ordered with it touches nothing. -/
def appAt (F : VK) (b : Nat) : Op → Bool
  | .call c => match c.callee, avs F c.args.toList with
    | .builtin .append, some [.sl k _ _ _ _ _, .p (.lst _ _ _ _)] => Nat.beq k b
    | _, _ => false
  | _ => false
theorem appAt_ok {F : VK} {T : Fr} {S : St} {Z : Nat → Prop} {j : Nm} {b : Nat} {o : Op} (h : appAt F b o = true) (hF : FRR E S Z j F T) : ∃ b', j b = some b' ∧ storeAt T o = some b' := by
  unfold appAt at h
  split at h
  · rename_i c
    split at h
    · rename_i k _ _ _ _ _ _ _ _ _ hc ha
      have := beq_eq h; subst this
      obtain ⟨vs, h1, h2⟩ := hF.evs ha
      cases h2 with
      | cons h3 h4 =>
        cases h4 with
        | cons h5 h6 =>
          cases h6
          cases h3 with
          | sl hj =>
            refine ⟨_, hj, ?_⟩
            show storeCall T c = _
            unfold storeCall
            rw [hc, h1]
            cases h5 with
            | p h5 => cases h5 <;> rfl
    · cases h
  · cases h
noncomputable def mayWrite (ops : Array Oper) (bs : List Nat) (ks : List (Nat × Option Nat)) (i : Nat) (F : VK) (o : Op) (out : VOut) : Bool :=
  Nat.beq out.kind 0 || (uni bs i || ((Nat.beq out.kind 1 || Nat.beq out.kind 2 && appAt F out.at_ o) && ks.any (fun k => Nat.beq k.1 out.at_ && Option.rec (motive := fun _ => Bool) (calmAt bs ops.toList i) (fun m => calmNew bs ops.toList i m && ((bs[i]?).getD 0).testBit m) k.2)))
def isNew (L : VS) : VS → Bool
  | (n, _) :: _ => Nat.beq n (nx L)
  | [] => false
def hdN : VS → Nat
  | (n, _) :: _ => n
  | [] => 0
def hdA : VS → Bool
  | (_, v) :: _ => isAcc v
  | [] => false
def ks2 (ks : List (Nat × Option Nat)) (kind at_ : Nat) : List (Nat × Option Nat) := bif Nat.beq kind 2 then ks.filter (fun k => !Nat.beq k.1 at_) else ks
def ksOf (ks : List (Nat × Option Nat)) (kind at_ : Nat) (L L' : VS) (i : Nat) : List (Nat × Option Nat) := bif isNew L L' && !hdA L' then (hdN L', some i) :: ks2 ks kind at_ else ks2 ks kind at_
theorem VD0.make {tb : Tab} {ops : Array Oper} {bs : List Nat} {ks : List (Nat × Option Nat)} {i : Nat} {o : Oper} {rest : List Oper} {F : VK} {L : VS} {Q : VK → VS → Prop} {z : Bool} {out : VOut} (hT : TabOK E tb = true) (hg : vgd ops F o.guard = some true) (hd : dstOk o.dst N = true) (h : vopS tb F L z o.op = some out) (ho : ∀ P ∈ out.ob, P)
    (hst : Nat.beq out.kind 2 = true → (st.all fun i => !Nat.beq i out.at_) = true) (hw : mayWrite ops bs ks i F o.op out = true) (hk : VD0 E N st ops bs (ksOf ks out.kind out.at_ L out.L i) rest (i + 1) (vbind o.dst out.a out.F) out.L Q) : VD0 E N st ops bs ks (o :: rest) i F L Q := by
  intro T S Z j D r0 h1 h2 h3 h4 hD hi hks
  obtain ⟨hi1, hi2⟩ := ops_at hi
  obtain ⟨T', S', Z', j', h5, h6, h7, h8, h9, h10, h11, h12, h14, h13⟩ := op_sound1 hT hg hd h ho h1 h2.at0 h3.at0
  have hlow := h10 (Nat.le_refl _)
  have hdr : ∃ D', drawOk bs i T S.size S'.low o.op D = some D' ∧ DInv ops.toList bs r0 (i + 1) D' ∧ D'.starts = D.starts ++ [S.size] := by
    unfold mayWrite at hw
    simp only [Bool.or_eq_true] at hw
    rcases hw with hw | hw | hw
    · refine ⟨_, drawn_ok hi1 hD (.inl ?_), dinv_next hi1 hD, rfl⟩
      rw [h11 (beq_eq hw)]; exact Nat.le_refl _
    · exact ⟨_, drawn_ok hi1 hD (.inr hw), dinv_next hi1 hD, rfl⟩
    · rw [Bool.and_eq_true] at hw
      obtain ⟨w1, w2⟩ := hw
      have : ∃ b, j out.at_ = some b ∧ storeAt T o.op = some b := by
        rw [Bool.or_eq_true] at w1
        rcases w1 with w1 | w1
        · obtain ⟨b, b1, b2, _⟩ := h12 (beq_eq w1); exact ⟨b, b1, b2⟩
        · rw [Bool.and_eq_true] at w1
          exact appAt_ok w1.2 h3
      obtain ⟨b, b1, b2⟩ := this
      obtain ⟨k, hk1, hk2⟩ := List.any_eq_true.1 w2
      rw [Bool.and_eq_true] at hk2
      obtain ⟨hk2, w3⟩ := hk2
      have := beq_eq hk2
      obtain ⟨b', hb1, hb2⟩ := hks.2.2.2 _ hk1
      rw [this, b1] at hb1; cases hb1
      obtain ⟨n0, m0⟩ := k
      cases m0 with
      | none => exact draw_calm hi1 hD b2 hb2 w3
      | some m =>
        obtain ⟨g1, g2, g3⟩ := hb2
        have w3 : (calmNew bs ops.toList i m && ((bs[i]?).getD 0).testBit m) = true := w3
        rw [Bool.and_eq_true] at w3
        exact draw_made hi1 hD b2 g1 (by rw [makerOf_lt g2]; exact g3) w3.1 w3.2
  obtain ⟨D', d1, d2, d3⟩ := hdr
  have hks0 : KInv (ks2 ks out.kind out.at_) j' (S.back S') D' r0 (i + 1) := by
    obtain ⟨s1, s2, s3, s4⟩ := hks
    refine ⟨by rw [d3, List.length_append, s1]; rfl, fun s hm => ?_, Nat.le_trans s3 h9.size, fun k hk => ?_⟩
    · rw [d3] at hm
      rcases List.mem_append.1 hm with hm | hm
      · exact Nat.le_trans (s2 s hm) h9.size
      · rw [List.mem_singleton.1 hm]; exact h9.size
    · have hk' : k ∈ ks ∧ (out.kind = 2 → k.1 ≠ out.at_) := by
        unfold ks2 at hk
        cases h2k : Nat.beq out.kind 2 with
        | true =>
          rw [h2k] at hk
          obtain ⟨q1, q2⟩ := List.mem_filter.1 hk
          refine ⟨q1, fun _ e => ?_⟩
          rw [e, Nat.beq_refl] at q2; cases q2
        | false => rw [h2k] at hk; exact ⟨hk, fun e => by rw [e] at h2k; cases h2k⟩
      obtain ⟨b, k1, k2⟩ := s4 k hk'.1
      refine ⟨b, h13 _ _ hk'.2 k1, ?_⟩
      obtain ⟨n, m⟩ := k
      cases m with
      | none => exact k2
      | some m =>
        obtain ⟨k3, k4, k5⟩ := k2
        exact ⟨k3, Nat.lt_of_lt_of_le k4 h9.size, by rw [d3, makerOf_lt k4]; exact k5⟩
  have hks' : KInv (ksOf ks out.kind out.at_ L out.L i) j' (S.back S') D' r0 (i + 1) := by
    unfold ksOf
    cases hnw : (isNew L out.L && !hdA out.L) with
    | false => exact hks0
    | true =>
      simp only [cond_true]
      rw [Bool.and_eq_true] at hnw
      obtain ⟨hnw, hna⟩ := hnw
      cases hL : out.L with
      | nil => rw [hL] at hnw; cases hnw
      | cons p l =>
        obtain ⟨n0, v0⟩ := p
        rw [hL] at hnw hna
        have := beq_eq hnw; subst this
        show KInv ((nx L, some i) :: ks2 ks out.kind out.at_) j' (S.back S') D' r0 (i + 1)
        obtain ⟨b, hb1, _⟩ := h7.blk (nx L) v0 (by rw [hL, bk_cons, if_pos rfl]) (void_acc (by change (!isAcc v0) = true at hna; simpa using hna))
        have hb : S.size ≤ b := h14 _ _ (h2.dom (nx L) (by
          cases hbk : bk L (nx L) with
          | none => rfl
          | some v => exact absurd (nx_lt hbk) (Nat.lt_irrefl _))) hb1
        obtain ⟨s1, s2, s3, s4⟩ := hks0
        refine ⟨s1, s2, s3, fun k hk => ?_⟩
        rcases List.mem_cons.1 hk with rfl | hk
        · refine ⟨b, hb1, Nat.le_trans hks.2.2.1 hb, (h7.jlt _ _ hb1).1, ?_⟩
          rw [makerOf_all, d3, List.length_append, hks.1]
          · rfl
          · intro s hs'
            rw [d3] at hs'
            rcases List.mem_append.1 hs' with hm | hm
            · exact Nat.le_trans (hks.2.1 s hm) hb
            · rw [List.mem_singleton.1 hm]; exact hb
        · exact s4 k hk
  obtain ⟨n, r, k1, F2, L2, Z2, j2, k2, k3⟩ := hk T' (S.back S') Z' j' D' r0 h6 h7.back h8.back (back_low hlow) d2 hi2 hks'
  refine ⟨n, r, fun m hm => ?_, F2, L2, Z2, j2, ⟨k2.n, k2.sr, k2.fr, h9.back.trans k2.ex, k2.low, Stay.trans (fun i hi b hb => h13 i b (fun hk e => ?_) hb) k2.stay⟩, k3⟩
  · show ob (stepL E _ _ ops o T S.at0) _ = _
    rw [h5]
    show ob (drawOk bs i T S.size S'.low o.op D) _ = _
    rw [d1]
    exact k1 m hm
  · have := List.all_eq_true.1 (hst (by rw [hk]; rfl)) i hi
    rw [e, Nat.beq_refl] at this; cases this
end
end
end Go.Proofs.YtncpeobcgmkkbaaGreat
/- Walks over values: less known, names changed; calls; loops. -/
namespace Go.Proofs.YtncpeobcgmkkbaaGreat
noncomputable section

def pl : List (Nat × Nat) → Nat → Option Nat
  | [], _ => none
  | (k, i) :: l, x => bif Nat.beq k x then some i else pl l x
def rnk : List (Nat × Nat) → Nat → Nat
  | [], x => x
  | (k, i) :: l, x => bif Nat.beq i x then k else rnk l x
def olds (ps : List (Nat × Nat)) (x : Nat) : Bool := ps.any fun p => Nat.beq p.2 x
def news (ps : List (Nat × Nat)) (x : Nat) : Bool := ps.any fun p => Nat.beq p.1 x
def psOk : List (Nat × Nat) → Bool
  | [] => true
  | (k, i) :: l => !news l k && (!olds l i && psOk l)
def renF (r : Nat → Nat) : VK → VK
  | [] => []
  | (x, a) :: l => (x, a.ren r) :: renF r l
def onlyF (g : Nat → Bool) : VK → Bool
  | [] => true
  | (_, a) :: l => a.only g && onlyF g l
theorem ak_renF {r : Nat → Nat} {g : Nat → Bool} : ∀ {F : VK} {t : Nat} {a : AV}, ak (renF r F) t = some a → onlyF g F = true → ∃ a0, ak F t = some a0 ∧ a = a0.ren r ∧ a0.only g = true
  | [], t, a, h, _ => by cases h
  | (x, a0) :: l, t, a, h, ho => by
    simp only [onlyF, Bool.and_eq_true] at ho
    simp only [renF, ak] at h ⊢
    cases hb : Nat.beq x t with
    | true =>
      rw [hb] at h
      simp only [cond_true, Option.some.injEq] at h ⊢
      exact ⟨a0, rfl, h.symm, ho.1⟩
    | false =>
      rw [hb] at h
      simp only [cond_false] at h ⊢
      exact ak_renF h ho.2
def renB (r : Nat → Nat) : VB → VB
  | .cells cs t => .cells (AV.rens r cs) t
  | .arr n sz f t => .arr n sz f t
  | .loop st pd G N ps asg body => .loop st pd (renF r G) N ps asg body
  | .acc n sz f t => .acc n sz f t
  | .mapI f => .mapI f
def onlyB (g : Nat → Bool) : VB → Bool
  | .cells cs _ => AV.onlys g cs
  | .arr _ _ _ _ => true
  | .loop _ _ G _ _ _ _ => onlyF g G
  | .acc _ _ _ _ => true
  | .mapI _ => true
theorem void_ren {r : Nat → Nat} {vb : VB} (h : vb.void) : (renB r vb).void := by cases vb <;> exact h
def selS (ps : List (Nat × Nat)) (L : VS) : List (Nat × Nat) → Option VS
  | [] => some []
  | (k, i) :: l => match bk L i, selS ps L l with
    | some vb, some r => bif onlyB (olds ps) vb then some ((k, renB (rnk ps) vb) :: r) else none
    | _, _ => none
def jsel (ps : List (Nat × Nat)) (j : Nm) : Nm := fun k => match pl ps k with
  | some i => j i
  | none => none
theorem bne {a b : Nat} (h : a ≠ b) : Nat.beq a b = false := beq_ne h
theorem rnk_news : ∀ {ps : List (Nat × Nat)} {i : Nat}, olds ps i = true → news ps (rnk ps i) = true
  | [], i, h => by cases h
  | (k, i0) :: l, i, h => by
    simp only [rnk]
    by_cases e : i0 = i
    · subst e; simp [news]
    · rw [bne e]
      simp only [olds, List.any_cons, bne e, Bool.false_or] at h
      have := rnk_news (ps := l) h
      simp only [cond_false]
      simp only [news, List.any_cons, Bool.or_eq_true]
      exact .inr this
theorem pl_rnk : ∀ {ps : List (Nat × Nat)} {i : Nat}, psOk ps = true → olds ps i = true → pl ps (rnk ps i) = some i
  | [], i, _, h => by cases h
  | (k, i0) :: l, i, hp, h => by
    simp only [psOk, Bool.and_eq_true, Bool.not_eq_true'] at hp
    obtain ⟨h1, h2, h3⟩ := hp
    simp only [rnk, pl]
    by_cases e : i0 = i
    · subst e; simp
    · rw [bne e]
      simp only [olds, List.any_cons, bne e, Bool.false_or] at h
      have h4 := rnk_news (ps := l) h
      simp only [cond_false]
      rw [bne (fun e2 => by rw [← e2, h1] at h4; cases h4)]
      exact pl_rnk h3 h
theorem pl_olds : ∀ {ps : List (Nat × Nat)} {k i : Nat}, pl ps k = some i → olds ps i = true
  | [], k, i, h => by cases h
  | (k0, i0) :: l, k, i, h => by
    simp only [pl] at h
    by_cases e : k0 = k
    · subst e; simp at h; subst h; simp [olds]
    · rw [bne e] at h
      have := pl_olds (ps := l) h
      simp only [olds, List.any_cons, Bool.or_eq_true]
      exact .inr this
theorem rnk_pl : ∀ {ps : List (Nat × Nat)} {k i : Nat}, psOk ps = true → pl ps k = some i → rnk ps i = k
  | [], k, i, _, h => by cases h
  | (k0, i0) :: l, k, i, hp, h => by
    simp only [psOk, Bool.and_eq_true, Bool.not_eq_true'] at hp
    obtain ⟨h1, h2, h3⟩ := hp
    simp only [pl] at h
    simp only [rnk]
    by_cases e : k0 = k
    · subst e; simp at h; subst h; simp
    · rw [bne e] at h
      have h4 := pl_olds (ps := l) h
      rw [bne (fun e2 => by rw [e2, h4] at h2; cases h2)]
      exact rnk_pl h3 h
theorem selS_key {ps : List (Nat × Nat)} {L : VS} : ∀ {l : List (Nat × Nat)} {r : VS}, selS ps L l = some r → ∀ k, (bk r k = none → pl l k = none) ∧ ∀ vb', bk r k = some vb' → ∃ i vb, pl l k = some i ∧ bk L i = some vb ∧ onlyB (olds ps) vb = true ∧ vb' = renB (rnk ps) vb
  | [], r, h, k => by cases h; exact ⟨fun _ => rfl, fun vb' h => by cases h⟩
  | (k0, i0) :: l, r, h, k => by
    simp only [selS] at h
    split at h
    · rename_i vb r0 hvb hr0
      cases ho : onlyB (olds ps) vb with
      | false => rw [ho] at h; cases h
      | true =>
        rw [ho] at h
        cases h
        have ih := selS_key hr0 k
        simp only [pl]
        rw [bk_cons]
        by_cases e : k0 = k
        · subst e
          simp only [Nat.beq_refl, cond_true, if_pos]
          exact ⟨fun h => (by cases h), fun vb' h => by cases h; exact ⟨i0, vb, rfl, hvb, ho, rfl⟩⟩
        · rw [bne e, if_neg (fun e2 => e e2.symm)]
          exact ih
    · cases h
section
variable {E : Env} {S : St} {Z : Nat → Prop} {j : Nm} {L Lc : VS} {F : VK} {T : Fr} {ps : List (Nat × Nat)}
theorem jsel_ren (hp : psOk ps = true) : ∀ i b, olds ps i = true → j i = some b → jsel ps j (rnk ps i) = some b := fun i b hi hb => by
  unfold jsel
  rw [pl_rnk hp hi]; exact hb
theorem BR.ren {S' : St} {Z' : Nat → Prop} {j' : Nm} {g : Nat → Bool} {r : Nat → Nat} {b : Nat} {vb : VB} (h : BR E S Z j b vb) (hh : S'.heap.get b = S.heap.get b) (hz : ZLe E S Z S' Z') (hj : ∀ i b, g i = true → j i = some b → j' (r i) = some b) (ho : onlyB g vb = true) : BR E S' Z' j' b (renB r vb) := by
  have hc : S'.cells b = S.cells b := by unfold St.cells; rw [hh]
  cases vb with
  | cells cs t => obtain ⟨vs, h1, h2, h3⟩ := h; exact ⟨vs, hc.trans h1, h2, h3.ren hz hj ho⟩
  | arr n sz f t => obtain ⟨vs, g, h1, h2, h3, h4⟩ := h; exact ⟨vs, g, hc.trans h1, h2, h3, fun k hk => (h4 k hk).mono hz⟩
  | loop st pd G N ps asg body =>
    obtain ⟨T, h1, h2, h3⟩ := h
    refine ⟨T, hh.trans h1, h2, fun t a ha => ?_⟩
    obtain ⟨a0, k1, rfl, k3⟩ := ak_renF ha ho
    obtain ⟨v, k4, k5⟩ := h3 t a0 k1
    exact ⟨v, k4, k5.ren hz hj k3⟩
  | acc n sz f t => obtain ⟨vs, g, h1, h2, h3, h4⟩ := h; exact ⟨vs, g, hc.trans h1, h2, h3, fun k hk => (h4 k hk).mono hz⟩
  | mapI f => obtain ⟨l, h1, h2⟩ := h; exact ⟨l, hh.trans h1, h2⟩
theorem SR.sel (h : SR E S Z j L) (hp : psOk ps = true) (hs : selS ps L ps = some Lc) : SR E S Z (jsel ps j) Lc := by
  refine ⟨h.zlt, fun k b hb => ?_, fun k k' b hb hb' => ?_, fun k hk => ?_, fun k vb hk => ?_, fun b c hb => ⟨(h.rom b c hb).1, fun k hk => ?_⟩⟩
  · unfold jsel at hb
    split at hb
    · exact h.jlt _ _ hb
    · cases hb
  · unfold jsel at hb hb'
    split at hb
    · rename_i i hi
      split at hb'
      · rename_i i' hi'
        have := h.inj _ _ _ hb hb'; subst this
        rw [← rnk_pl hp hi, ← rnk_pl hp hi']
      · cases hb'
    · cases hb
  · unfold jsel
    rw [(selS_key hs k).1 hk]
  · obtain ⟨i, vb0, h1, h2, h3, rfl⟩ := (selS_key hs k).2 vb hk
    rcases h.blk' i vb0 h2 with hv | ⟨b, h4, h5⟩
    · exact .inl (void_ren hv)
    refine .inr ⟨b, ?_, h5.ren rfl (ZLe.refl _ _) (jsel_ren hp) h3⟩
    unfold jsel; rw [h1]; exact h4
  · unfold jsel at hk
    split at hk
    · exact (h.rom b c hb).2 _ hk
    · cases hk
end
/-- A value is seen in another way. -/
def AImp (a b : AV) : Prop := ∀ E S Z j v, VR E S Z j a v → VR E S Z j b v
theorem AImp.refl (a : AV) : AImp a a := fun _ _ _ _ _ h => h
def BImp (a b : VB) : Prop := (∀ E S Z j c, BR E S Z j c a → BR E S Z j c b) ∧ (a.void → b.void)
theorem BImp.refl (a : VB) : BImp a a := ⟨fun _ _ _ _ _ h => h, id⟩
theorem BImp.arr {n sz : Nat} {f g : Nat → List PV} {t : TypeId} (h : ∀ k, k < n → f k = g k) : BImp (.arr n sz f t) (.arr n sz g t) := by
  refine ⟨?_, id⟩
  rintro E S Z j c ⟨vs, gg, h1, h2, h3, h4⟩
  exact ⟨vs, gg, h1, h2, h3, fun k hk => by rw [← h k hk]; exact h4 k hk⟩
theorem BImp.acc {n n' sz : Nat} {f g : Nat → List PV} {t : TypeId} (e : n = n') (h : ∀ k, k < n → f k = g k) : BImp (.acc n sz f t) (.acc n' sz g t) := by
  subst e
  refine ⟨?_, id⟩
  rintro E S Z j c ⟨vs, gg, h1, h2, h3, h4⟩
  exact ⟨vs, gg, h1, h2, h3, fun k hk => by rw [← h k hk]; exact h4 k hk⟩
/-- A grown list that has elements is a plain block. -/
theorem BImp.accArr {n n' sz : Nat} {f g : Nat → List PV} {t : TypeId} (hn : 0 < n) (e : n = n') (h : ∀ k, k < n → f k = g k) : BImp (.acc n sz f t) (.arr n' sz g t) := by
  subst e
  refine ⟨?_, fun h => by have h : n = 0 := h; omega⟩
  rintro E S Z j c ⟨vs, gg, h1, h2, h3, h4⟩
  exact ⟨vs, gg, h1, h2, h3, fun k hk => by rw [← h k hk]; exact h4 k hk⟩
theorem BImp.arrAcc {n n' sz : Nat} {f g : Nat → List PV} {t : TypeId} (e : n = n') (h : ∀ k, k < n → f k = g k) : BImp (.arr n sz f t) (.acc n' sz g t) := by
  subst e
  refine ⟨?_, fun h => h.elim⟩
  rintro E S Z j c ⟨vs, gg, h1, h2, h3, h4⟩
  exact ⟨vs, gg, h1, h2, h3, fun k hk => by rw [← h k hk]; exact h4 k hk⟩
theorem AImp.accSl {nb : Bool} {i sz n m c : Nat} (hn : 0 < n) (h1 : n = m) (h2 : n = c) : AImp (.acc nb i sz n) (.sl i sz 0 m c 0) := by
  subst h1 h2
  intro E S Z j v hv
  cases hv with
  | accN => omega
  | accE => omega
  | accC h =>
    rename_i n b
    have := VR.sl (E := E) (S := S) (Z := Z) (sz := sz) (off := 0) (n := n + 1) (cap := n + 1) (ex := 0) h
    rw [Nat.zero_mul] at this; exact this
theorem AImp.slAcc {nb : Bool} {i sz n m c : Nat} (hn : 0 < n) (h1 : m = n) (h2 : c = n) : AImp (.sl i sz 0 m c 0) (.acc nb i sz n) := by
  subst h1 h2
  intro E S Z j v hv
  cases hv with
  | sl h =>
    rw [Nat.zero_mul]
    cases c with
    | zero => omega
    | succ n => exact .accC h
theorem AImp.nilAcc {i sz ty : Nat} {f : Nat → List PV} : AImp (.p (.lst ty true 0 f)) (.acc true i sz 0) := fun E S Z j v hv => by
  cases hv with
  | p hv => cases hv; exact .accN
theorem AImp.empAcc {i sz : Nat} : AImp (.p .emp) (.acc false i sz 0) := fun E S Z j v hv => by
  cases hv with
  | p hv => cases hv with
    | emp h1 h2 h3 => exact .accE h1 h2 h3
theorem AImp.acc {nb nb' : Bool} {i sz n n' : Nat} (h : n = n') (hb : n = 0 → nb = nb') : AImp (.acc nb i sz n) (.acc nb' i sz n') := by
  subst h
  intro E S Z j v hv
  cases hv with
  | accN => rw [← hb rfl]; exact .accN
  | accE h1 h2 h3 => rw [← hb rfl]; exact .accE h1 h2 h3
  | accC h => exact .accC h
theorem BImp.cell1 {a b : AV} {t : TypeId} (h : AImp a b) : BImp (.cells [a] t) (.cells [b] t) := by
  refine ⟨?_, id⟩
  rintro E S Z j c ⟨vs, h1, h2, h3⟩
  refine ⟨vs, h1, h2, ?_⟩
  cases h3 with
  | cons h4 h5 => exact .cons (h _ _ _ _ _ h4) h5
theorem AImp.lst {ty n : Nat} {nb : Bool} {f g : Nat → List PV} (h : ∀ k, k < n → f k = g k) : AImp (.p (.lst ty nb n f)) (.p (.lst ty nb n g)) := by
  intro E S Z j v hv
  cases hv with
  | p hv => cases hv with
    | nil => exact .p (.nil _ _)
    | lst gg h1 h2 h3 h4 h5 h6 h7 => exact .p (.lst gg h1 h2 h3 h4 h5 h6 fun k hk => by rw [← h k hk]; exact h7 k hk)
theorem AImp.nil {ty ty' : Nat} {f g : Nat → List PV} : AImp (.p (.lst ty true 0 f)) (.p (.lst ty' true 0 g)) := by
  intro E S Z j v hv
  cases hv with
  | p hv => cases hv with
    | nil => exact .p (.nil _ _)
theorem AImp.emp {ty : Nat} {f : Nat → List PV} : AImp (.p .emp) (.p (.lst ty false 0 f)) := by
  intro E S Z j v hv
  cases hv with
  | p hv => cases hv with
    | emp h1 h2 h3 => exact .p (.lst (sz := 0) (fun _ => []) h1 h2 (Nat.le_refl _) h3 (.inl rfl) (fun k hk => absurd hk (Nat.not_lt_zero k)) (fun k hk => absurd hk (Nat.not_lt_zero k)))
def LImp : VS → VS → Prop
  | [], [] => True
  | (i, v) :: l, (k, w) :: m => i = k ∧ BImp v w ∧ LImp l m
  | _, _ => False
theorem LImp.refl : ∀ (L : VS), LImp L L
  | [] => trivial
  | (_, v) :: l => ⟨rfl, BImp.refl v, LImp.refl l⟩
theorem LImp.key : ∀ {l m : VS}, LImp l m → ∀ k, (bk m k = none → bk l k = none) ∧ ∀ w, bk m k = some w → ∃ v, bk l k = some v ∧ BImp v w
  | [], [], _, k => ⟨fun _ => rfl, fun w h => by cases h⟩
  | (i, v) :: l, (i', w) :: m, h, k => by
    obtain ⟨rfl, h1, h2⟩ := h
    rw [bk_cons, bk_cons]
    by_cases e : k = i
    · rw [if_pos e, if_pos e]
      exact ⟨fun h => (by cases h), fun w h => by cases h; exact ⟨v, rfl, h1⟩⟩
    · rw [if_neg e, if_neg e]
      exact LImp.key h2 k
  | [], _ :: _, h, _ => h.elim
  | _ :: _, [], h, _ => h.elim
theorem SR.imp {E : Env} {S : St} {Z : Nat → Prop} {j : Nm} {L L' : VS} (h : SR E S Z j L) (hl : LImp L L') : SR E S Z j L' :=
  ⟨h.zlt, h.jlt, h.inj, fun i hi => h.dom i ((hl.key i).1 hi), fun i w hi => by
    obtain ⟨v, h1, h2⟩ := (hl.key i).2 w hi
    rcases h.blk' i v h1 with hv | ⟨b, h3, h4⟩
    · exact .inl (h2.2 hv)
    exact .inr ⟨b, h3, h2.1 _ _ _ _ _ h4⟩, h.rom⟩
/-- Less is known; names changed. -/
structure Wk (st : List Nat) (ps : List (Nat × Nat)) (F : VK) (L : VS) (F0 : VK) (L0 : VS) : Prop where
  ok : psOk ps = true
  st : (st.all fun i => Option.rec false (fun k => Nat.beq k i) (pl ps i)) = true
  fr : ∀ p ∈ F0, ∃ a, ak F p.1 = some a ∧ a.only (olds ps) = true ∧ AImp (a.ren (rnk ps)) p.2
  bl : ∃ L1, selS ps L ps = some L1 ∧ LImp L1 L0
theorem wf_nil {F : VK} {ps : List (Nat × Nat)} : ∀ p ∈ ([] : VK), ∃ a, ak F p.1 = some a ∧ a.only (olds ps) = true ∧ AImp (a.ren (rnk ps)) p.2 := fun p h => by cases h
theorem wf_imp {F F0 : VK} {ps : List (Nat × Nat)} {t : Nat} {a a0 : AV} (h : ak F t = some a) (ho : a.only (olds ps) = true) (hr : AImp (a.ren (rnk ps)) a0) (hl : ∀ p ∈ F0, ∃ a, ak F p.1 = some a ∧ a.only (olds ps) = true ∧ AImp (a.ren (rnk ps)) p.2) :
    ∀ p ∈ (t, a0) :: F0, ∃ a, ak F p.1 = some a ∧ a.only (olds ps) = true ∧ AImp (a.ren (rnk ps)) p.2 := fun p hp => by
  rcases List.mem_cons.1 hp with rfl | hp
  · exact ⟨a, h, ho, hr⟩
  · exact hl p hp
theorem wf_cons {F F0 : VK} {ps : List (Nat × Nat)} {t : Nat} {a a0 : AV} (h : ak F t = some a) (ho : a.only (olds ps) = true) (hr : a.ren (rnk ps) = a0) (hl : ∀ p ∈ F0, ∃ a, ak F p.1 = some a ∧ a.only (olds ps) = true ∧ AImp (a.ren (rnk ps)) p.2) :
    ∀ p ∈ (t, a0) :: F0, ∃ a, ak F p.1 = some a ∧ a.only (olds ps) = true ∧ AImp (a.ren (rnk ps)) p.2 := wf_imp h ho (hr ▸ AImp.refl _) hl
theorem ak_mem : ∀ {F : VK} {t : Nat} {a : AV}, ak F t = some a → (t, a) ∈ F
  | [], t, a, h => by cases h
  | (s, b) :: l, t, a, h => by
    simp only [ak] at h
    by_cases e : s = t
    · subst e; simp at h; subst h; simp
    · rw [bne e] at h; exact List.mem_cons_of_mem _ (ak_mem h)
section
variable {E : Env} {S : St} {Z : Nat → Prop} {j : Nm} {L L0 : VS} {F F0 : VK} {T : Fr} {ps : List (Nat × Nat)} {st : List Nat}
theorem Wk.sr (h : Wk st ps F L F0 L0) (hS : SR E S Z j L) : SR E S Z (jsel ps j) L0 := by
  obtain ⟨L1, h1, h2⟩ := h.bl
  exact (hS.sel h.ok h1).imp h2
theorem Wk.frr (h : Wk st ps F L F0 L0) (hF : FRR E S Z j F T) : FRR E S Z (jsel ps j) F0 T := by
  intro t a0 ha
  obtain ⟨a, h1, h2, h3⟩ := h.fr _ (ak_mem ha)
  obtain ⟨v, h4, h5⟩ := hF t a h1
  exact ⟨v, h4, h3 _ _ _ _ _ (h5.ren (ZLe.refl _ _) (jsel_ren h.ok) h2)⟩
theorem jsel_ex : Ex S Z j S Z (jsel ps j) := by
  refine ⟨Nat.le_refl _, fun _ _ _ => rfl, fun _ h => h, fun _ h => .inl h, fun k b hb => ?_, Nat.le_refl _, fun _ h _ _ => h⟩
  unfold jsel at hb
  split at hb
  · exact .inr ⟨_, hb⟩
  · cases hb
theorem Wk.stay (h : Wk st ps F L F0 L0) : Stay st j (jsel ps j) := by
  intro i hi b hb
  have := List.all_eq_true.1 h.st i hi
  unfold jsel
  cases hp : pl ps i with
  | none => rw [hp] at this; cases this
  | some k => rw [hp] at this; have := beq_eq this; subst this; exact hb
end
section
variable {E : Env} {N : Nat} {st : List Nat} {rd : Option Nat} {F F0 : VK} {L L0 : VS} {ps : List (Nat × Nat)}
theorem VW.weak {c : Code} {Q : VPost} (hw : Wk st ps F L F0 L0) (h : VW E N st rd c F0 L0 Q) : VW E N st rd c F L Q := by
  intro T S Z j h1 h2 h3 h4
  obtain ⟨n, r, h5, F', L', Z', j', h6, h7⟩ := h T S Z (jsel ps j) h1 (hw.sr h2) (hw.frr h3) h4
  exact ⟨n, r, h5, F', L', Z', j', ⟨h6.n, h6.sr, h6.fr, jsel_ex.trans h6.ex, h6.low, hw.stay.trans h6.stay⟩, h7⟩
theorem VO.weak {ops : Array Oper} {rest : List Oper} {Q : VK → VS → Prop} (hw : Wk st ps F L F0 L0) (h : VO E N st ops rest F0 L0 Q) : VO E N st ops rest F L Q := by
  intro T S Z j h1 h2 h3 h4
  obtain ⟨n, r, h5, F', L', Z', j', h6, h7⟩ := h T S Z (jsel ps j) h1 (hw.sr h2) (hw.frr h3) h4
  exact ⟨n, r, h5, F', L', Z', j', ⟨h6.n, h6.sr, h6.fr, jsel_ex.trans h6.ex, h6.low, hw.stay.trans h6.stay⟩, h7⟩
/-- A view of what is known. -/
def Vw (E : Env) (st : List Nat) (F : VK) (L : VS) (F0 : VK) (L0 : VS) : Prop := ∀ T S Z j, SR E S Z j L → FRR E S Z j F T → ∃ Z' j', SR E S Z' j' L0 ∧ FRR E S Z' j' F0 T ∧ Ex S Z j S Z' j' ∧ Stay st j j'
theorem Wk.vw {ps : List (Nat × Nat)} {F F0 : VK} {L L0 : VS} (h : Wk st ps F L F0 L0) : Vw E st F L F0 L0 := fun T S Z j h1 h2 => ⟨Z, jsel ps j, h.sr h1, h.frr h2, jsel_ex, h.stay⟩
theorem Vw.sub {F F0 : VK} {L : VS} (h : ∀ p ∈ F0, ak F p.1 = some p.2) : Vw E st F L F0 L := fun T S Z j h1 h2 => ⟨Z, j, h1, fun t a ha => h2 t a (h _ (ak_mem ha)), Ex.refl _ _ _, Stay.refl _ _⟩
theorem Vw.sub' {F F0 : VK} {L : VS} (h : ∀ t a, ak F0 t = some a → ak F t = some a) : Vw E st F L F0 L := fun T S Z j h1 h2 => ⟨Z, j, h1, fun t a ha => h2 t a (h _ _ ha), Ex.refl _ _ _, Stay.refl _ _⟩
theorem Vw.trans {F F0 F1 : VK} {L L0 L1 : VS} (h : Vw E st F L F0 L0) (k : Vw E st F0 L0 F1 L1) : Vw E st F L F1 L1 := fun T S Z j h1 h2 => by
  obtain ⟨Z', j', k1, k2, k3, k4⟩ := h T S Z j h1 h2
  obtain ⟨Z2, j2, m1, m2, m3, m4⟩ := k T S Z' j' k1 k2
  exact ⟨Z2, j2, m1, m2, k3.trans m3, k4.trans m4⟩
theorem Vw.imp {F : VK} {L L' : VS} (h : LImp L L') : Vw E st F L F L' := fun T S Z j h1 h2 => ⟨Z, j, h1.imp h, h2, Ex.refl _ _ _, Stay.refl _ _⟩
theorem VW.view {c : Code} {Q : VPost} (hw : Vw E st F L F0 L0) (h : VW E N st rd c F0 L0 Q) : VW E N st rd c F L Q := by
  intro T S Z j h1 h2 h3 h4
  obtain ⟨Z', j', k1, k2, k3, k4⟩ := hw T S Z j h2 h3
  obtain ⟨n, r, h5, F', L', Z2, j2, h6, h7⟩ := h T S Z' j' h1 k1 k2 h4
  exact ⟨n, r, h5, F', L', Z2, j2, ⟨h6.n, h6.sr, h6.fr, k3.trans h6.ex, h6.low, k4.trans h6.stay⟩, h7⟩
/-- A loop. -/
theorem VW.loop {α : Type} {b : Code} {Q : VPost} (I : α → VK → VS → Prop) (μ : α → Nat)
    (hb : ∀ x F L, I x F L → VW E N st rd b F L fun e F' L' => match e with
      | .normal => ∃ y F0 L0, Vw E st F' L' F0 L0 ∧ I y F0 L0 ∧ μ y < μ x
      | e => Q e F' L') : ∀ x F L, I x F L → VW E N st rd (.loop b) F L Q := by
  have key : ∀ k x F L, μ x ≤ k → I x F L → VW E N st rd (.loop b) F L Q := by
    intro k
    induction k with
    | zero =>
      intro x F L hx hI T S Z j h1 h2 h3 h4
      obtain ⟨n, r, h5, F', L', Z', j', h6, h7⟩ := hb x F L hI T S Z j h1 h2 h3 h4
      cases hr : r.ex with
      | normal => rw [hr] at h7; obtain ⟨y, _, _, _, _, h8⟩ := h7; omega
      | exit id =>
        rw [hr] at h7
        refine ⟨n + 1, r, fun m hm => ?_, F', L', Z', j', h6, by rw [hr]; exact h7⟩
        obtain ⟨k, rfl, hk⟩ := le_succ_ex hm
        show ob ((run E (k + 1)).code b rd T S) _ = _
        rw [h5 _ (by omega)]
        show onNormal r _ = _
        unfold onNormal; rw [hr]
      | ret =>
        rw [hr] at h7
        refine ⟨n + 1, r, fun m hm => ?_, F', L', Z', j', h6, by rw [hr]; exact h7⟩
        obtain ⟨k, rfl, hk⟩ := le_succ_ex hm
        show ob ((run E (k + 1)).code b rd T S) _ = _
        rw [h5 _ (by omega)]
        show onNormal r _ = _
        unfold onNormal; rw [hr]
    | succ k ih =>
      intro x F L hx hI T S Z j h1 h2 h3 h4
      obtain ⟨n, r, h5, F', L', Z', j', h6, h7⟩ := hb x F L hI T S Z j h1 h2 h3 h4
      cases hr : r.ex with
      | normal =>
        rw [hr] at h7
        obtain ⟨y, F0, L0, hw, hI', hy⟩ := h7
        obtain ⟨Z1, j1, w1, w2, w3, w4⟩ := hw r.T r.S Z' j' h6.sr h6.fr
        obtain ⟨n2, r2, k1, F2, L2, Z2, j2, k2, k3⟩ := ih y F0 L0 (by omega) hI' r.T r.S Z1 j1 h6.n w1 w2 h6.low
        refine ⟨n + n2 + 1, r2, fun m hm => ?_, F2, L2, Z2, j2, ⟨k2.n, k2.sr, k2.fr, h6.ex.trans (w3.trans k2.ex), k2.low, h6.stay.trans (w4.trans k2.stay)⟩, k3⟩
        obtain ⟨k, rfl, hk⟩ := le_succ_ex hm
        show ob ((run E (k + 1)).code b rd T S) _ = _
        rw [h5 _ (by omega)]
        show onNormal r _ = _
        unfold onNormal; rw [hr]
        exact k1 _ (by omega)
      | exit id =>
        rw [hr] at h7
        refine ⟨n + 1, r, fun m hm => ?_, F', L', Z', j', h6, by rw [hr]; exact h7⟩
        obtain ⟨k, rfl, hk⟩ := le_succ_ex hm
        show ob ((run E (k + 1)).code b rd T S) _ = _
        rw [h5 _ (by omega)]
        show onNormal r _ = _
        unfold onNormal; rw [hr]
      | ret =>
        rw [hr] at h7
        refine ⟨n + 1, r, fun m hm => ?_, F', L', Z', j', h6, by rw [hr]; exact h7⟩
        obtain ⟨k, rfl, hk⟩ := le_succ_ex hm
        show ob ((run E (k + 1)).code b rd T S) _ = _
        rw [h5 _ (by omega)]
        show onNormal r _ = _
        unfold onNormal; rw [hr]
  exact fun x F L h => key (μ x) x F L (Nat.le_refl _) h
end
end
end Go.Proofs.YtncpeobcgmkkbaaGreat
/- Walks over values: calls. -/
namespace Go.Proofs.YtncpeobcgmkkbaaGreat
noncomputable section
section
variable {E : Env} {N : Nat} {st : List Nat} {rd : Option Nat} {F : VK} {L : VS}
/-- What a call leaves, where the callee gets some of the blocks under names of its own. -/
def takeS (ps : List (Nat × Nat)) : VS → VS
  | [] => []
  | (i, v) :: l => bif olds ps i then takeS ps l else (i, v) :: takeS ps l
def backN (ps : List (Nat × Nat)) (base k : Nat) : Nat := match pl ps k with
  | some i => i
  | none => base + k
def backS (r : Nat → Nat) : VS → VS
  | [] => []
  | (k, v) :: l => (r k, renB r v) :: backS r l
mutual
theorem only_all : ∀ (a : AV), a.only (fun _ => true) = true
  | .p _ => rfl
  | .agg cs => onlys_all cs
  | .ref _ _ => rfl
  | .el _ _ _ _ => rfl
  | .sl _ _ _ _ _ _ => rfl
  | .fn _ a b => by simp only [AV.only_fn, onlys_all a, onlys_all b, Bool.and_self]
  | .map _ => rfl
  | .tup vs => onlys_all vs
  | .yld _ => rfl
  | .acc _ _ _ _ => rfl
  | .lit _ => rfl
  | .junk => rfl
theorem onlys_all : ∀ (l : List AV), AV.onlys (fun _ => true) l = true
  | [] => rfl
  | a :: l => by simp only [AV.onlys_cons, only_all a, onlys_all l, Bool.and_self]
end
theorem onlyF_all : ∀ (G : VK), onlyF (fun _ => true) G = true
  | [] => rfl
  | (_, a) :: l => by simp only [onlyF, only_all a, onlyF_all l, Bool.and_self]
theorem onlyB_all (v : VB) : onlyB (fun _ => true) v = true := by
  cases v with
  | cells cs t => exact onlys_all cs
  | arr _ _ _ _ => rfl
  | loop st pd G N ps asg body => exact onlyF_all G
  | acc _ _ _ _ => rfl
  | mapI _ => rfl
theorem bk_app : ∀ {A B : VS} {i : Nat}, bk (A ++ B) i = match bk A i with | some v => some v | none => bk B i
  | [], B, i => rfl
  | (k, v) :: A, B, i => by
    rw [List.cons_append, bk_cons, bk_cons]
    by_cases e : i = k
    · rw [if_pos e, if_pos e]
    · rw [if_neg e, if_neg e]; exact bk_app
theorem bk_takeS {ps : List (Nat × Nat)} : ∀ {L : VS} {i : Nat}, bk (takeS ps L) i = bif olds ps i then none else bk L i
  | [], i => by simp only [takeS, bk]; cases olds ps i <;> rfl
  | (k, v) :: l, i => by
    simp only [takeS]
    cases ho : olds ps k with
    | true =>
      simp only [cond_true]
      rw [bk_takeS, bk_cons]
      by_cases e : i = k
      · subst e; rw [ho]; rfl
      · rw [if_neg e]
    | false =>
      simp only [cond_false]
      rw [bk_cons, bk_cons, bk_takeS]
      by_cases e : i = k
      · subst e; rw [ho]; simp
      · rw [if_neg e, if_neg e]
theorem bk_backS {r : Nat → Nat} (hr : ∀ a b, r a = r b → a = b) : ∀ {L : VS} {i : Nat}, (bk (backS r L) i = none → ∀ k, r k = i → bk L k = none) ∧ ∀ w, bk (backS r L) i = some w → ∃ k v, r k = i ∧ bk L k = some v ∧ w = renB r v
  | [], i => ⟨fun _ _ _ => rfl, fun w h => by cases h⟩
  | (k0, v0) :: l, i => by
    simp only [backS]
    rw [bk_cons]
    by_cases e : i = r k0
    · rw [if_pos e]
      exact ⟨fun h => (by cases h), fun w h => (by cases h; exact ⟨k0, v0, e.symm, by rw [bk_cons, if_pos rfl], rfl⟩)⟩
    · rw [if_neg e]
      obtain ⟨h1, h2⟩ := bk_backS hr (L := l) (i := i)
      refine ⟨fun h k hk => ?_, fun w h => ?_⟩
      · rw [bk_cons, if_neg (fun e2 => by subst e2; exact e hk.symm)]
        exact h1 h k hk
      · obtain ⟨k, v, h3, h4, h5⟩ := h2 w h
        refine ⟨k, v, h3, ?_, h5⟩
        rw [bk_cons, if_neg (fun e2 => by subst e2; exact e h3.symm)]
        exact h4
theorem news_mem {ps : List (Nat × Nat)} {k : Nat} (h : news ps k = true) : ∃ p ∈ ps, p.1 = k := by
  obtain ⟨p, h1, h2⟩ := List.any_eq_true.1 h
  exact ⟨p, h1, beq_eq h2⟩
theorem call_after {S S' : St} {Z Z' : Nat → Prop} {j j' : Nm} {L Lc L' : VS} {ps : List (Nat × Nat)} {stc : List Nat} (hS : SR E S Z j L) (hp : psOk ps = true) (hsel : selS ps L ps = some Lc) (hstc : (ps.all fun p => stc.any fun k => Nat.beq k p.1) = true)
    (hS' : SR E S' Z' j' L') (hex : Ex S Z (jsel ps j) S' Z' j') (hstay : Stay stc (jsel ps j) j') :
    ∃ jn : Nm, SR E S' Z' jn (backS (backN ps (nx L)) L' ++ takeS ps L) ∧ Ex S Z j S' Z' jn ∧ (∀ i b, j i = some b → jn i = some b) ∧ (∀ k b, j' k = some b → jn (backN ps (nx L) k) = some b) := by
  have holt : ∀ i, olds ps i = true → i < nx L := by
    intro i hi
    have h1 := pl_rnk hp hi
    cases hb : bk Lc (rnk ps i) with
    | none => rw [(selS_key hsel _).1 hb] at h1; cases h1
    | some vb =>
      obtain ⟨i', v, h2, h3, _⟩ := (selS_key hsel _).2 vb hb
      rw [h1] at h2; cases h2
      exact nx_lt h3
  have hjs : ∀ k b, jsel ps j k = some b → ∃ i, pl ps k = some i ∧ j i = some b := by
    intro k b hb
    unfold jsel at hb
    split at hb
    · exact ⟨_, by assumption, hb⟩
    · cases hb
  have hrin : ∀ a b, backN ps (nx L) a = backN ps (nx L) b → a = b := by
    intro a b h
    unfold backN at h
    split at h
    · rename_i i hi
      split at h
      · rename_i i' hi'
        subst h
        rw [← rnk_pl hp hi, ← rnk_pl hp hi']
      · have := holt i (pl_olds hi); omega
    · split at h
      · rename_i i' hi'
        have := holt i' (pl_olds hi'); omega
      · omega
  let jn : Nm := fun i => if olds ps i = true then j' (rnk ps i) else if i < nx L then j i else match pl ps (i - nx L) with
    | some _ => none
    | none => j' (i - nx L)
  have hjo : ∀ i, olds ps i = true → jn i = j' (rnk ps i) := fun i h => if_pos h
  have hjr : ∀ i, olds ps i ≠ true → i < nx L → jn i = j i := fun i h h2 => by show (if olds ps i = true then _ else _) = _; rw [if_neg h, if_pos h2]
  have hjn : ∀ i, olds ps i ≠ true → ¬ i < nx L → pl ps (i - nx L) = none → jn i = j' (i - nx L) := fun i h h2 h3 => by
    show (if olds ps i = true then _ else _) = _; rw [if_neg h, if_neg h2, h3]
  have hjx : ∀ i, olds ps i ≠ true → ¬ i < nx L → pl ps (i - nx L) ≠ none → jn i = none := fun i h h2 h3 => by
    show (if olds ps i = true then _ else _) = _; rw [if_neg h, if_neg h2]
    split
    · rfl
    · rename_i e; exact absurd e h3
  have keep : ∀ i b, j i = some b → jn i = some b := by
    intro i b hb
    by_cases ho : olds ps i = true
    · rw [hjo i ho]
      obtain ⟨p, hp1, hp2⟩ := news_mem (rnk_news ho)
      have h1 := List.all_eq_true.1 hstc p hp1
      obtain ⟨k, hk1, hk2⟩ := List.any_eq_true.1 h1
      have hk3 := beq_eq hk2
      exact hstay _ (by rw [← hp2, ← hk3]; exact hk1) b (jsel_ren hp i b ho hb)
    · rw [hjr i ho]
      · exact hb
      · cases hbk : bk L i with
        | none => rw [hS.dom i hbk] at hb; cases hb
        | some v => exact nx_lt hbk
  have back : ∀ k b, j' k = some b → jn (backN ps (nx L) k) = some b := by
    intro k b hb
    unfold backN
    split
    · rename_i i hi
      rw [hjo i (pl_olds hi), rnk_pl hp hi]; exact hb
    · rename_i hi
      have h1 : olds ps (nx L + k) ≠ true := fun h => by have := holt _ h; omega
      rw [hjn _ h1 (by omega) (by rw [Nat.add_sub_cancel_left]; exact hi), Nat.add_sub_cancel_left]; exact hb
  -- every name: an old one, one of the rest, or one of the callee's
  have cases3 : ∀ i b, jn i = some b → (∃ k, j' k = some b ∧ backN ps (nx L) k = i) ∨ (olds ps i ≠ true ∧ j i = some b) := by
    intro i b hb
    by_cases ho : olds ps i = true
    · rw [hjo i ho] at hb
      refine .inl ⟨_, hb, ?_⟩
      unfold backN; rw [pl_rnk hp ho]
    · by_cases hl : i < nx L
      · rw [hjr i ho hl] at hb; exact .inr ⟨ho, hb⟩
      · cases hpl : pl ps (i - nx L) with
        | some x => rw [hjx i ho hl (by rw [hpl]; simp)] at hb; cases hb
        | none =>
          rw [hjn i ho hl hpl] at hb
          refine .inl ⟨_, hb, ?_⟩
          unfold backN; rw [hpl]
          show nx L + (i - nx L) = i
          omega
  have apart : ∀ i b k, olds ps i ≠ true → j i = some b → j' k = some b → False := by
    intro i b k ho hi hk
    rcases hex.jn k b hk with h | ⟨k', h⟩
    · have := (hS.jlt i b hi).1; omega
    · obtain ⟨i', h1, h2⟩ := hjs k' b h
      have := hS.inj _ _ _ hi h2; subst this
      exact ho (pl_olds h1)
  refine ⟨jn, ⟨hS'.zlt, fun i b hb => ?_, fun i i' b hb hb' => ?_, fun i hi => ?_, fun i vb hi => ?_, fun b c hb => ⟨(hS'.rom b c hb).1, fun i hi => (by
    rcases cases3 i b hi with ⟨k, hk, _⟩ | ⟨_, hj⟩
    · exact (hS'.rom b c hb).2 k hk
    · exact (hS.rom b c hb).2 i hj)⟩⟩, ⟨hex.size, fun b hb hn => ?_, hex.zz, fun b hb => ?_, fun i b hb => ?_, hex.low.1, fun m h1 h2 h3 => ?_⟩, keep, back⟩
  · rcases cases3 i b hb with ⟨k, hk, _⟩ | ⟨ho, hj⟩
    · exact hS'.jlt k b hk
    · refine ⟨Nat.lt_of_lt_of_le (hS.jlt i b hj).1 hex.size, fun hz => ?_⟩
      rcases hex.zn b hz with h | h | ⟨k, h⟩
      · exact (hS.jlt i b hj).2 h
      · have := (hS.jlt i b hj).1; omega
      · obtain ⟨i', h1, h2⟩ := hjs k b h
        have := hS.inj _ _ _ hj h2; subst this
        exact ho (pl_olds h1)
  · rcases cases3 i b hb with ⟨k, hk, hk2⟩ | ⟨ho, hj⟩
    · rcases cases3 i' b hb' with ⟨k', hk', hk2'⟩ | ⟨ho', hj'⟩
      · have := hS'.inj _ _ _ hk hk'; subst this
        rw [← hk2, ← hk2']
      · exact (apart i' b k ho' hj' hk).elim
    · rcases cases3 i' b hb' with ⟨k', hk', hk2'⟩ | ⟨ho', hj'⟩
      · exact (apart i b k' ho hj hk').elim
      · exact hS.inj _ _ _ hj hj'
  · rw [bk_app] at hi
    split at hi
    · cases hi
    · rename_i hb1
      rw [bk_takeS] at hi
      cases hji : jn i with
      | none => rfl
      | some b =>
        rcases cases3 i b hji with ⟨k, hk, hk2⟩ | ⟨ho, hj⟩
        · have := hS'.dom k ((bk_backS hrin).1 hb1 k hk2)
          rw [hk] at this; cases this
        · rw [show olds ps i = false by simpa using ho] at hi
          have := hS.dom i hi
          rw [hj] at this; cases this
  · rw [bk_app] at hi
    split at hi
    · rename_i v hv
      cases hi
      obtain ⟨k, v0, h1, h2, rfl⟩ := (bk_backS hrin).2 _ hv
      rcases hS'.blk' k v0 h2 with hv | ⟨b, h3, h4⟩
      · exact .inl (void_ren hv)
      refine .inr ⟨b, by rw [← h1]; exact back k b h3, h4.ren rfl (ZLe.refl _ _) (fun k b _ hk => back k b hk) (onlyB_all v0)⟩
    · rw [bk_takeS] at hi
      cases ho : olds ps i with
      | true => rw [ho] at hi; cases hi
      | false =>
        rw [ho] at hi
        rcases hS.blk' i vb hi with hv | ⟨b, h3, h4⟩
        · exact .inl hv
        refine .inr ⟨b, keep i b h3, h4.mono ?_ ?_ keep⟩
        · refine hex.old b (hS.jlt i b h3).1 fun k hk => ?_
          obtain ⟨i', h1, h2⟩ := hjs k b hk
          have := hS.inj _ _ _ h3 h2; subst this
          rw [pl_olds h1] at ho; cases ho
        · intro b hb
          refine ⟨hex.zz b hb, ?_⟩
          unfold rdc St.cells
          rw [hex.old b (hS.zlt b hb) fun k hk => ?_]
          obtain ⟨i', h1, h2⟩ := hjs k b hk
          exact (hS.jlt _ _ h2).2 hb
  · refine hex.old b hb fun k hk => ?_
    obtain ⟨i', h1, h2⟩ := hjs k b hk
    exact hn i' h2
  · rcases hex.zn b hb with h | h | ⟨k, h⟩
    · exact .inl h
    · exact .inr (.inl h)
    · obtain ⟨i', h1, h2⟩ := hjs k b h
      exact .inr (.inr ⟨i', h2⟩)
  · rcases cases3 i b hb with ⟨k, hk, _⟩ | ⟨ho, hj⟩
    · rcases hex.jn k b hk with h | ⟨k', h⟩
      · exact .inl h
      · obtain ⟨i', h1, h2⟩ := hjs k' b h
        exact .inr ⟨i', h2⟩
    · exact .inr ⟨i, hj⟩
  · refine hex.low.2 m h1 h2 fun k b hk => ?_
    obtain ⟨i', h4, h5⟩ := hjs k b hk
    exact h3 i' b h5
/-- A call: what a caller sees. -/
theorem op_call {ops : Array Oper} {o : Oper} {c : Call} {f : Operand} {g : FuncId} {first cap args argsC : List AV} {Lc : VS} {ps : List (Nat × Nat)} {stc : List Nat} {R : AV → VS → Prop} (hg : vgd ops F o.guard = some true) (hd : dstOk o.dst N = true)
    (hop : o.op = .call c) (hc : c.callee = .value f) (hf : av F f = some (.fn g first cap)) (ha : avs F c.args.toList = some args) (hp : psOk ps = true) (hsel : selS ps L ps = some Lc) (hstc : (ps.all fun p => stc.any fun k => Nat.beq k p.1) = true)
    (hon : AV.onlys (olds ps) (first ++ (args ++ cap)) = true) (hren : AV.rens (rnk ps) (first ++ (args ++ cap)) = argsC) (hC : VC E stc g argsC Lc R)
    {T : Fr} {S : St} {Z : Nat → Prop} {j : Nm} (h1 : T.n = N) (h2 : SR E S Z j L) (h3 : FRR E S Z j F T) (h4 : S.low ≤ S.size) :
    ∃ n T' S' Z' jn a L', (∀ m, n ≤ m → stepL E (run E m).call (run E m).code ops o T S = some (T', S')) ∧ R a L' ∧ T'.n = N ∧ SR E S' Z' jn (backS (backN ps (nx L)) L' ++ takeS ps L) ∧ FRR E S' Z' jn (vbind o.dst (a.ren (backN ps (nx L))) F) T' ∧ Ex S Z j S' Z' jn ∧ S'.low ≤ S'.size ∧
      (∀ i b, j i = some b → jn i = some b) ∧ (ps = [] → S.low ≤ S.size → S'.low = S.low) := by
  obtain ⟨v, k1, k2⟩ := h3.ev hf
  obtain ⟨vs, k3, k4⟩ := h3.evs ha
  cases k2 with
  | fn q1 q2 =>
    rename_i fa ca
    have hvs : VRs E S Z j (first ++ (args ++ cap)) (fa.toList ++ (vs ++ ca.toList)) := q1.append (k4.append q2)
    have hvc := hvs.ren (r := rnk ps) (ZLe.refl S Z) (jsel_ren hp) hon
    rw [hren] at hvc
    obtain ⟨n, u, S', h5, a, L', Z', j', h6, h7, h8, h9, h10, h11⟩ := hC S Z (jsel ps j) _ (h2.sel hp hsel) hvc h4
    obtain ⟨jn, m1, m2, m3, m4⟩ := call_after h2 hp hsel hstc h6 h8 h10
    have hu : VR E S' Z' jn (a.ren (backN ps (nx L))) u := h7.ren (ZLe.refl _ _) (fun k b _ hk => m4 k b hk) (only_all a)
    obtain ⟨T', t1, t2, t3⟩ := vput_ok h1 (h3.mono' (m2.zle h2) m3) hd hu
    refine ⟨n, T', S', Z', jn, a, L', fun m hm => ?_, h11, t2, m1, t3, m2, h9, m3, fun hps hl => ?_⟩
    · unfold stepL
      rw [vgd_ok hg h3, hop]
      have : evOp E (run E m).call (run E m).code T S (.call c) = some (u, S') := by
        show ob (T.evs c.args.toList) _ = _
        rw [k3, hc]
        show ob (T.ev f) _ = _
        rw [k1]
        exact h5 m hm
      show ob (evOp E _ _ T S (.call c)) (putS T o.dst) = _
      rw [this]
      show ob (T.put o.dst u) _ = _
      rw [t1]; rfl
    · subst hps
      refine Nat.le_antisymm h8.low.1 (h8.low.2 S.low (Nat.le_refl _) hl fun k b hk => ?_)
      cases hk
theorem VO.call {ops : Array Oper} {o : Oper} {rest : List Oper} {c : Call} {f : Operand} {g : FuncId} {first cap args argsC : List AV} {Lc : VS} {ps : List (Nat × Nat)} {stc : List Nat} {R : AV → VS → Prop} {Q : VK → VS → Prop} (hg : vgd ops F o.guard = some true) (hd : dstOk o.dst N = true)
    (hop : o.op = .call c) (hc : c.callee = .value f) (hf : av F f = some (.fn g first cap)) (ha : avs F c.args.toList = some args) (hp : psOk ps = true) (hsel : selS ps L ps = some Lc) (hstc : (ps.all fun p => stc.any fun k => Nat.beq k p.1) = true)
    (hon : AV.onlys (olds ps) (first ++ (args ++ cap)) = true) (hren : AV.rens (rnk ps) (first ++ (args ++ cap)) = argsC) (hC : VC E stc g argsC Lc R)
    (h : ∀ a L', R a L' → VO E N st ops rest (vbind o.dst (a.ren (backN ps (nx L))) F) (backS (backN ps (nx L)) L' ++ takeS ps L) Q) : VO E N st ops (o :: rest) F L Q := by
  intro T S Z j h1 h2 h3 h4
  obtain ⟨n, T', S', Z', jn, a, L', k1, k2, k3, k4, k5, k6, k7, k8, _⟩ := op_call hg hd hop hc hf ha hp hsel hstc hon hren hC h1 h2 h3 h4
  obtain ⟨n2, r, q1, F2, L2, Z2, j2, q2, q3⟩ := h a L' k2 T' S' Z' jn k3 k4 k5 k7
  refine ⟨n + n2, r, fun m hm => ?_, F2, L2, Z2, j2, ⟨q2.n, q2.sr, q2.fr, k6.trans q2.ex, q2.low, Stay.trans (fun i _ b hb => k8 i b hb) q2.stay⟩, q3⟩
  show ob (stepL E _ _ ops o T S) _ = _
  rw [k1 m (by omega)]
  exact q1 m (by omega)
theorem VD0.call {ops : Array Oper} {bs : List Nat} {ks : List (Nat × Option Nat)} {i : Nat} {o : Oper} {rest : List Oper} {c : Call} {f : Operand} {g : FuncId} {first cap args argsC : List AV} {Lc : VS} {ps : List (Nat × Nat)} {stc : List Nat} {R : AV → VS → Prop} {Q : VK → VS → Prop} (hg : vgd ops F o.guard = some true) (hd : dstOk o.dst N = true)
    (hop : o.op = .call c) (hc : c.callee = .value f) (hf : av F f = some (.fn g first cap)) (ha : avs F c.args.toList = some args) (hp : psOk ps = true) (hsel : selS ps L ps = some Lc) (hstc : (ps.all fun p => stc.any fun k => Nat.beq k p.1) = true)
    (hon : AV.onlys (olds ps) (first ++ (args ++ cap)) = true) (hren : AV.rens (rnk ps) (first ++ (args ++ cap)) = argsC) (hC : VC E stc g argsC Lc R) (hw : (ps.isEmpty || uni bs i) = true)
    (h : ∀ a L', R a L' → VD0 E N st ops bs ks rest (i + 1) (vbind o.dst (a.ren (backN ps (nx L))) F) (backS (backN ps (nx L)) L' ++ takeS ps L) Q) : VD0 E N st ops bs ks (o :: rest) i F L Q := by
  intro T S Z j D r0 h1 h2 h3 h4 hD hi hks
  obtain ⟨hi1, hi2⟩ := ops_at hi
  obtain ⟨n, T', S', Z', jn, a, L', k1, k2, k3, k4, k5, k6, k7, k8, k9⟩ := op_call hg hd hop hc hf ha hp hsel hstc hon hren hC h1 h2.at0 h3.at0 (Nat.le_refl _)
  have hdr : S.size ≤ S'.low ∨ uni bs i = true := by
    simp only [Bool.or_eq_true] at hw
    rcases hw with hw | hw
    · refine .inl ?_
      rw [k9 (List.isEmpty_iff.1 hw) (Nat.le_refl _)]; exact Nat.le_refl _
    · exact .inr hw
  obtain ⟨n2, r, q1, F2, L2, Z2, j2, q2, q3⟩ := h a L' k2 T' (S.back S') Z' jn _ r0 k3 k4.back k5.back (back_low k7) (dinv_next (T := T) (size := S.size) hi1 hD) hi2 (hks.step rfl k6.size k8)
  refine ⟨n + n2, r, fun m hm => ?_, F2, L2, Z2, j2, ⟨q2.n, q2.sr, q2.fr, k6.back.trans q2.ex, q2.low, Stay.trans (fun i _ b hb => k8 i b hb) q2.stay⟩, q3⟩
  show ob (stepL E _ _ ops o T S.at0) _ = _
  rw [k1 m (by omega)]
  show ob (drawOk bs i T S.size S'.low o.op D) _ = _
  rw [drawn_ok hi1 hD hdr]
  exact q1 m (by omega)
end
end
end Go.Proofs.YtncpeobcgmkkbaaGreat
