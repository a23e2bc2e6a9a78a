/- The program's StemChecks returns true for every stem and every ones, valid or not, without an exception and without changing its arguments: a part of the proof. -/
import Derived.Test.YtncpeobcgmkkbaaGreatVa
import Derived.LoopNIn
import Derived.IntWalk
set_option linter.all false
/- An operation does the same where blocks that it doesn't touch are given up; and what it writes to. -/
namespace Go.Proofs.YtncpeobcgmkkbaaGreat
noncomputable section

def kill (S : St) (l : List Nat) : St := ⟨l.foldl (fun h X => h.set X .dead) S.heap, S.size, S.low⟩
theorem get_kill (S : St) (l : List Nat) (b : Nat) : (kill S l).heap.get b = if b ∈ l then some .dead else S.heap.get b := by
  have : ∀ (l : List Nat) (h : Tr LObj), (l.foldl (fun h X => h.set X .dead) h).get b = if b ∈ l then some .dead else h.get b := by
    intro l
    induction l with
    | nil => intro h; simp
    | cons X l ih =>
      intro h
      rw [List.foldl_cons, ih, Tr.get_set]
      by_cases h1 : b ∈ l
      · simp [h1]
      · by_cases h2 : b = X
        · simp [h2]
        · simp [h1, h2]
  exact this l S.heap
theorem kill_cells {S : St} {l : List Nat} {b : Nat} (h : b ∉ l) : (kill S l).cells b = S.cells b := by
  unfold St.cells; rw [get_kill, if_neg h]
/-- S', but for the blocks that are given up. -/
def Killed (l : List Nat) (S' Sk : St) : Prop := Sk.size = S'.size ∧ Sk.low = S'.low ∧ ∀ b, Sk.heap.get b = if b ∈ l then some .dead else S'.heap.get b
theorem killed_self (S : St) (l : List Nat) : Killed l S (kill S l) := ⟨rfl, rfl, get_kill S l⟩
theorem killed_new {S Sk : St} {l : List Nat} (h : Killed l S Sk) (hl : ∀ X ∈ l, X < S.size) (o : LObj) : Killed l (S.new o) (Sk.new o) := by
  obtain ⟨h1, h2, h3⟩ := h
  refine ⟨by show Nat.succ Sk.size = Nat.succ S.size; rw [h1], h2, fun b => ?_⟩
  rw [get_new, get_new, h1, h3]
  by_cases hb : b = S.size
  · have : b ∉ l := fun hm => by have := hl b hm; omega
    simp [hb, this, hb ▸ this]
  · simp [hb]
theorem killed_put {S Sk : St} {l : List Nat} (h : Killed l S Sk) {c : Nat} (hc : c ∉ l) (o : LObj) : Killed l (S.put c o) (Sk.put c o) := by
  obtain ⟨h1, h2, h3⟩ := h
  refine ⟨h1, by show Nat.min c Sk.low = Nat.min c S.low; rw [h2], fun b => ?_⟩
  rw [get_put, get_put, h3]
  by_cases hb : b = c
  · subst hb; simp [hc]
  · simp [hb]
section
variable {E : Env} {callF : CallF} {codeF : CodeF} {T : Fr} {S : St} {l : List Nat}
theorem keepS_kill {x : Option Value} {r : Value × St} (h : keepS S x = some r) : ∃ Sk, keepS (kill S l) x = some (r.1, Sk) ∧ Killed l r.2 Sk := by
  obtain ⟨h1, h2⟩ := keep_some h
  rw [h1, h2]
  exact ⟨_, rfl, killed_self S l⟩
theorem rdc_kill {b : Nat} (hb : b ∉ l) : rdc E (kill S l) b = rdc E S b := by
  unfold rdc; rw [kill_cells hb]
theorem rda_kill {a : Addr} (hb : a.block ∉ l) : rda E (kill S l) a = rda E S a := by
  unfold rda; rw [rdc_kill hb, kill_cells hb]
theorem load_kill {b n : Nat} {sp : Option Nat} {off : Nat} (hb : b ∉ l) : (kill S l).load E ⟨b, off, sp⟩ n = S.load E ⟨b, off, sp⟩ n := by
  unfold St.load; rw [rdc_kill hb]
theorem loadVar_kill {t : TypeId} {a : Addr} (ha : a.block ∉ l) : loadVarL E t a (kill S l) = loadVarL E t a S := by
  obtain ⟨b, off, sp⟩ := a
  unfold loadVarL
  simp only [load_kill (E := E) (S := S) (l := l) (sp := sp) (off := off) ha, rdc_kill (E := E) (S := S) ha]
theorem spent_kill {S Sk : St} {a : Addr} (hk : Killed l S Sk) (ha : a.block ∉ l) : Killed l (S.spent a) (Sk.spent a) := by
  cases h : a.spot with
  | none => rw [spent_none h, spent_none h]; exact hk
  | some i => rw [spent_some h, spent_some h]; exact killed_put hk ha _
theorem cellsOf_kill {size n : Nat} {x : Value} {ls : List Nat} (hx : ∀ a n c, x = .slice (some a) n c → a.block ∉ l) : cellsOfL E size n x (kill S l) = cellsOfL E size n x S := by
  unfold cellsOfL
  split
  · rename_i a n0 c0; rw [rdc_kill (hx a n0 c0 rfl)]
  · rfl
  · rfl
  · rfl
theorem append_kill {e : LTy} {elem : TypeId} {s : Value} {new : List Value} {k : Nat} {r : Value × St} (hl : ∀ X ∈ l, X < S.size) (hs : ∀ a n c, s = .slice (some a) n c → a.block ∉ l) (h : appendL E e elem s new k S = some r) :
    ∃ Sk, appendL E e elem s new k (kill S l) = some (r.1, Sk) ∧ Killed l r.2 Sk := by
  obtain ⟨q, hq, h1⟩ := ob_some h
  obtain ⟨qa, qn, qc⟩ := q
  have hsl := sliceOf_some hq
  dsimp only at hsl h1
  unfold appendL
  rw [hq]
  show ∃ Sk, bf (Nat.beq k 0) (some (s, kill S l)) _ = some (r.1, Sk) ∧ _
  by_cases hk : Nat.beq k 0 = true
  · rw [hk] at h1 ⊢
    cases h1
    exact ⟨_, rfl, killed_self S l⟩
  · have hk : Nat.beq k 0 = false := Bool.eq_false_iff.mpr hk
    rw [hk] at h1 ⊢
    obtain ⟨hc, h2⟩ := gd_some h1
    rw [hc]
    cases qa with
    | none =>
      obtain ⟨hz, h3⟩ := gd_some h2
      cases h3
      refine ⟨(kill S l).new (.cells new elem), ?_, killed_new (killed_self S l) hl _⟩
      show gd _ _ = _
      rw [hz]; rfl
    | some a =>
      have ha := hs a qn qc hsl
      obtain ⟨cs, hcs, h3⟩ := ob_some h2
      obtain ⟨hel, h4⟩ := gd_some h3
      show ∃ Sk, appendA E e elem a qn qc new k (kill S l) = some (r.1, Sk) ∧ _
      unfold appendA
      rw [rda_kill ha, hcs]
      show ∃ Sk, gd (Option.rec true (fun _ => Nat.beq cs.2 elem) a.spot) _ = some (r.1, Sk) ∧ _
      rw [hel]
      by_cases hb : Nat.ble (Nat.add qn k) qc = true
      · rw [hb] at h4 ⊢
        obtain ⟨cs2, hcs2, h4⟩ := ob_some h4
        obtain ⟨d, hd, h5⟩ := ob_some h4
        cases h5
        refine ⟨(kill S l).put a.block (.cells d cs2.2), ?_, killed_put (killed_self S l) ha _⟩
        show ob ((kill S l).cells a.block) _ = _
        rw [kill_cells ha, hcs2]
        show ob (paste cs2.1 (a.off + qn * e.size) new) _ = _
        rw [hd]; rfl
      · have hb : Nat.ble (Nat.add qn k) qc = false := Bool.eq_false_iff.mpr hb
        rw [hb] at h4 ⊢
        obtain ⟨d, hd, h5⟩ := ob_some h4
        cases h5
        refine ⟨((kill S l).spent a).new (.cells (d ++ new) elem), ?_, killed_new (spent_kill (killed_self S l) ha) (fun X hX => ?_) _⟩
        · show ob (cut cs.1 a.off (qn * e.size)) _ = _
          rw [hd]; rfl
        · have : (S.spent a).size = S.size := by
            cases h : a.spot with
            | none => rw [spent_none h]
            | some i => rw [spent_some h]; rfl
          rw [this]; exact hl X hX
/-- An operation whose blocks can be told does the same where others are given up. -/
theorem op_kill {o : Op} {r : Value × St} {lt : List Nat} (hl : ∀ X ∈ l, X < S.size) (ht : touchL T o = some lt) (hd : ∀ X ∈ lt, X ∉ l) (h : evOp E callF codeF T S o = some r) :
    ∃ Sk, evOp E callF codeF T (kill S l) o = some (r.1, Sk) ∧ Killed l r.2 Sk := by
  cases o <;> simp only [evOp] at h ⊢ <;> first | (cases h; done) | (exact keepS_kill h) | skip
  case alloc t =>
    obtain ⟨i, hi, h1⟩ := ob_some h
    cases h1
    exact ⟨_, by unfold opAlloc; rw [hi]; rfl, killed_new (killed_self S l) hl _⟩
  case box t x =>
    obtain ⟨v, hv, h1⟩ := ob_some h
    cases h1
    exact ⟨_, by unfold opBox; rw [hv]; rfl, killed_new (killed_self S l) hl _⟩
  case buildSlice t len parts =>
    obtain ⟨i, hi, h1⟩ := ob_some h
    obtain ⟨elem, he, h2⟩ := ob_some h1
    obtain ⟨ps, hps, h3⟩ := ob_some h2
    obtain ⟨e, hee, h4⟩ := ob_some h3
    obtain ⟨hc, h5⟩ := gd_some h4
    obtain ⟨c, hcc, h6⟩ := ob_some h5
    cases h6
    refine ⟨(kill S l).new (.cells c elem), ?_, killed_new (killed_self S l) hl _⟩
    unfold opBuildSlice
    simp only [ob, hi, he, hps, hee, gd, hc, hcc]
    rfl
  case load t a =>
    obtain ⟨h1, h2⟩ := keep_some h
    obtain ⟨p, hp, h3⟩ := ob_some h1
    have hpl : p.block ∉ l := by
      change ob (ob (T.ev a) addrOf) (fun p => some [p.block]) = some lt at ht
      rw [hp] at ht; cases ht
      exact hd _ (by simp)
    refine ⟨kill S l, ?_, by rw [h2]; exact killed_self S l⟩
    unfold opLoad
    rw [hp]
    show keepS (kill S l) (loadVarL E t p (kill S l)) = _
    rw [loadVar_kill hpl, h3]; rfl
  case store t a x =>
    obtain ⟨p, hp, h1⟩ := ob_some h
    obtain ⟨v, hv, h2⟩ := ob_some h1
    obtain ⟨S1, hS, h3⟩ := ob_some h2
    cases h3
    have hpl : p.block ∉ l := by
      change ob (ob (T.ev a) addrOf) (fun p => some [p.block]) = some lt at ht
      rw [hp] at ht; cases ht
      exact hd _ (by simp)
    obtain ⟨i, hi, h4⟩ := ob_some hS
    obtain ⟨hsz, h5⟩ := gd_some h4
    obtain ⟨hsp, h6⟩ := noSpot_some h5
    obtain ⟨c, hc, h7⟩ := ob_some h6
    obtain ⟨hsc, h8⟩ := gd_some h7
    obtain ⟨d, hdd, h9⟩ := ob_some h8
    cases h9
    refine ⟨(kill S l).put p.block (.cells d c.2), ?_, killed_put (killed_self S l) hpl _⟩
    unfold opStore
    rw [hp, hv]
    show ob (storeVarL E t p v (kill S l)) _ = _
    unfold storeVarL
    rw [hi]
    show ob (gd (Nat.beq v.cells.size i.size) ((kill S l).store p v.cells.toList)) _ = _
    rw [hsz]
    show ob ((kill S l).store p v.cells.toList) _ = _
    unfold St.store noSpot
    rw [hsp, kill_cells hpl, hc]
    show ob (gd (v.cells.toList.all scalar) (ob (paste c.1 p.off v.cells.toList) _)) _ = _
    rw [hsc, hdd]; rfl
  case makeMap t rr =>
    cases rr with
    | some _ => cases h
    | none =>
      cases h
      exact ⟨_, rfl, killed_new (killed_self S l) hl _⟩
  case makeSlice t a b =>
    obtain ⟨u, hu, h1⟩ := ob_some h
    obtain ⟨u2, hu2, h2⟩ := ob_some h1
    obtain ⟨i, hi, h3⟩ := ob_some h2
    obtain ⟨elem, he, h4⟩ := ob_some h3
    obtain ⟨e, hee, h5⟩ := ob_some h4
    obtain ⟨n, hn, h6⟩ := ob_some h5
    obtain ⟨c, hc, h7⟩ := ob_some h6
    obtain ⟨hcond, h8⟩ := gd_some h7
    cases h8
    refine ⟨(kill S l).new (.cells (zeros e.zero.cells.toList c) elem), ?_, killed_new (killed_self S l) hl _⟩
    simp only [ob, hu, hu2, makeSliceL, hi, he, hee, hn, hc, makeSliceE, gd, hcond]
    rfl
  case slice t x lo hi mx =>
    obtain ⟨h1, h2⟩ := keep_some h
    obtain ⟨v, hv, h3⟩ := ob_some h1
    refine ⟨kill S l, ?_, by rw [h2]; exact killed_self S l⟩
    have hbl : ∀ a n c, v = .slice (some a) n c → a.block ∉ l := by
      intro a n c e
      change ob (T.ev x) slicesOf = some lt at ht
      rw [hv, e] at ht
      cases ht
      exact hd _ (by simp [blockOf])
    rw [hv]
    show keepS (kill S l) (sliceL E t v T lo hi mx (kill S l)) = _
    have : sliceL E t v T lo hi mx (kill S l) = sliceL E t v T lo hi mx S := by
      unfold sliceL
      congr 1
      funext i
      split
      · rfl
      · rename_i elem a n c _
        congr 1
        funext e
        congr 1
        unfold elemOk
        cases a with
        | none => rfl
        | some a =>
          show (Option.rec (motive := fun _ => Bool) true (fun _ => Option.rec (motive := fun _ => Bool) false (fun c => Nat.beq c.2 elem) ((kill S l).cells a.block)) a.spot) = _
          rw [kill_cells (hbl a n c rfl)]
      · rfl
    rw [this, h3]; rfl
  case lookup t x k ok =>
    obtain ⟨h1, h2⟩ := keep_some h
    obtain ⟨m, hm, h3⟩ := ob_some h1
    obtain ⟨i, hi, h4⟩ := ob_some h3
    refine ⟨kill S l, ?_, by rw [h2]; exact killed_self S l⟩
    have : mapOf (kill S l) m = mapOf S m := by
      change ob (T.ev x) mapsOf = some lt at ht
      rw [hm] at ht
      unfold mapOf
      split
      · rfl
      · rename_i r
        cases ht
        rw [get_kill, if_neg (hd r (by simp))]
      · rfl
    rw [hm, hi]
    show keepS (kill S l) (lookupL E t m i ok (kill S l)) = _
    unfold lookupL
    rw [this]
    change lookupL E t m i ok S = _ at h4
    unfold lookupL at h4
    rw [h4]; rfl
  case mapUpdate t m k x =>
    obtain ⟨u, hu, h1⟩ := ob_some h
    obtain ⟨u2, hu2, h2⟩ := ob_some h1
    obtain ⟨u3, hu3, h3⟩ := ob_some h2
    obtain ⟨S1, hS, h4⟩ := ob_some h3
    cases h4
    obtain ⟨i, hi, h5⟩ := ob_some hS
    obtain ⟨d, hdd, h6⟩ := ob_some h5
    obtain ⟨kt, hkt, h7⟩ := ob_some h6
    obtain ⟨rr, hrr, h8⟩ := ob_some h7
    obtain ⟨es, hes, h9⟩ := ob_some h8
    obtain ⟨hkk, h10⟩ := gd_some h9
    obtain ⟨f, hf, h11⟩ := ob_some h10
    cases h11
    have hrl : rr ∉ l := by
      change ob (T.ev m) mapsOf = some lt at ht
      rw [hu, refOf_some hrr] at ht
      cases ht
      exact hd rr (by simp)
    refine ⟨(kill S l).put rr (.map (putEs es u2 u3 f)), ?_, killed_put (killed_self S l) hrl _⟩
    rw [hu, hu2, hu3]
    show ob (mapPutL E t u u2 u3 (kill S l)) _ = _
    unfold mapPutL
    rw [hi]
    show ob (ob (mapD i.desc) _) _ = _
    rw [hdd]
    show ob (ob (E.ti.get d.1) _) _ = _
    rw [hkt]
    show ob (ob (refOf u) _) _ = _
    rw [hrr]
    show ob (ob (ob ((kill S l).heap.get rr) mapO) _) _ = _
    rw [get_kill, if_neg hrl, hes]
    show ob (gd (keyKind kt.desc u2) (ob (findL u2 es 0) _)) _ = _
    rw [hkk, hf]; rfl
  case range t x =>
    obtain ⟨u, hu, h1⟩ := ob_some h
    obtain ⟨i, hi, h2⟩ := ob_some h1
    rw [hu]
    show ∃ Sk, opRange E t u (kill S l) = some (r.1, Sk) ∧ _
    unfold opRange
    rw [hi]
    show ∃ Sk, (match i.desc, u with
      | .string, .string s => some (ptr (kill S l).size 0, (kill S l).new (.strIter s 0))
      | .map _ _, .map none => some (ptr (kill S l).size 0, (kill S l).new .nilIter)
      | _, _ => none) = some (r.1, Sk) ∧ _
    split at h2
    · rename_i hD; cases h2
      rw [hD]
      exact ⟨_, rfl, killed_new (killed_self S l) hl _⟩
    · rename_i hD; cases h2
      rw [hD]
      exact ⟨_, rfl, killed_new (killed_self S l) hl _⟩
    · cases h2
  case next x str =>
    obtain ⟨u, hu, h1⟩ := ob_some h
    obtain ⟨a, ha, h2⟩ := ob_some h1
    obtain ⟨hoff, h3⟩ := gd_some h2
    obtain ⟨hsp, h4⟩ := noSpot_some h3
    obtain ⟨oo, hoo, h5⟩ := ob_some h4
    have hal : a.block ∉ l := by
      change ob (ob (T.ev x) addrOf) (fun p => some [p.block]) = some lt at ht
      rw [hu] at ht
      change ob (addrOf u) (fun p => some [p.block]) = some lt at ht
      rw [ha] at ht; cases ht
      exact hd _ (by simp)
    rw [hu]
    show ∃ Sk, opNext u str (kill S l) = some (r.1, Sk) ∧ _
    unfold opNext
    rw [ha]
    show ∃ Sk, gd (Nat.beq a.off 0) (noSpot a (ob ((kill S l).heap.get a.block) fun o => nextO o str a.block (kill S l))) = some (r.1, Sk) ∧ _
    unfold noSpot
    rw [hoff, hsp, get_kill, if_neg hal, hoo]
    show ∃ Sk, nextO oo str a.block (kill S l) = some (r.1, Sk) ∧ _
    unfold nextO at h5 ⊢
    split at h5
    · cases h5; exact ⟨_, rfl, killed_self S l⟩
    · rename_i s pos
      cases hb : Nat.blt pos s.size with
      | true =>
        rw [hb] at h5
        cases h5
        exact ⟨_, rfl, killed_put (killed_self S l) hal _⟩
      | false =>
        rw [hb] at h5
        cases h5
        exact ⟨_, rfl, killed_self S l⟩
    · cases h5
  case call c =>
    obtain ⟨args, hargs, h1⟩ := ob_some h
    unfold opCall
    rw [hargs]
    change touchCall T c = some lt at ht
    unfold touchCall at ht
    split at ht
    · rename_i hcal
      rw [hcal] at h1
      show ∃ Sk, (match c.callee with
        | .builtin b => builtinL E b c.argTypes.toList args (kill S l)
        | .value f => ob (T.ev f) fun v => callValL callF codeF v args (kill S l)
        | .invoke _ _ => none) = some (r.1, Sk) ∧ _
      rw [hcal]
      change biLen E c.argTypes.toList args S = some r at h1
      show ∃ Sk, biLen E c.argTypes.toList args (kill S l) = some (r.1, Sk) ∧ _
      obtain ⟨t, htt, h2⟩ := ob_some h1
      obtain ⟨x, hx, h3⟩ := ob_some h2
      obtain ⟨i, hi, h4⟩ := ob_some h3
      obtain ⟨v, hv, h5⟩ := ob_some h4
      cases h5
      refine ⟨kill S l, ?_, killed_self S l⟩
      unfold biLen
      rw [htt, hx]
      show ob (E.ti.get t) _ = _
      rw [hi]
      show ob (lenD i.desc x (kill S l)) _ = _
      have : lenD i.desc x (kill S l) = lenD i.desc x S := by
        rw [hargs] at ht
        split at ht
        · rename_i h; cases h
          cases hx
          unfold lenD
          split <;> first | rfl | (rename_i h _; cases h) | skip
        · rename_i h; cases h
          cases hx
          unfold lenD
          split <;> first | rfl | (rename_i h _; cases h) | skip
        · cases ht
      rw [this, hv]; rfl
    · rename_i hcal
      rw [hcal] at h1
      show ∃ Sk, (match c.callee with
        | .builtin b => builtinL E b c.argTypes.toList args (kill S l)
        | .value f => ob (T.ev f) fun v => callValL callF codeF v args (kill S l)
        | .invoke _ _ => none) = some (r.1, Sk) ∧ _
      rw [hcal]
      change biAppend E c.argTypes.toList args S = some r at h1
      show ∃ Sk, biAppend E c.argTypes.toList args (kill S l) = some (r.1, Sk) ∧ _
      rw [hargs] at ht
      split at ht
      · rename_i a n0 c0 b n1 c1 hh
        cases hh
        cases ht
        have ha : ∀ a' n c, Value.slice a n0 c0 = .slice (some a') n c → a'.block ∉ l := by
          intro a' n c e
          cases e
          exact hd _ (by simp [blockOf])
        have hb : ∀ a' n c, Value.slice b n1 c1 = .slice (some a') n c → a'.block ∉ l := by
          intro a' n c e
          cases e
          exact hd _ (by simp [blockOf])
        obtain ⟨t, htt, h2⟩ := ob_some h1
        obtain ⟨u, huu, h3⟩ := ob_some h2
        obtain ⟨s, hs, h4⟩ := ob_some h3
        obtain ⟨x, hx, h5⟩ := ob_some h4
        cases hs; cases hx
        obtain ⟨i, hi, h6⟩ := ob_some h5
        obtain ⟨ui, hui, h7⟩ := ob_some h6
        obtain ⟨elem, hel, h8⟩ := ob_some h7
        obtain ⟨e, hee, h9⟩ := ob_some h8
        unfold biAppend
        rw [htt, huu]
        show ∃ Sk, ob (E.ti.get t) _ = some (r.1, Sk) ∧ _
        rw [hi]
        show ∃ Sk, ob (E.ti.get u) _ = some (r.1, Sk) ∧ _
        rw [hui]
        show ∃ Sk, ob (sliceD i.desc) _ = some (r.1, Sk) ∧ _
        rw [hel]
        show ∃ Sk, ob (E.ti.get elem) _ = some (r.1, Sk) ∧ _
        rw [hee]
        show ∃ Sk, bf (isIntD ui.desc) _ _ = some (r.1, Sk) ∧ _
        cases hz : isIntD ui.desc with
        | true =>
          rw [hz] at h9
          cases (show (none : Option (Value × St)) = some r from h9)
        | false =>
          rw [hz] at h9
          obtain ⟨hsrc, h10⟩ := gd_some h9
          obtain ⟨k, hk, h11⟩ := ob_some h10
          obtain ⟨new, hnew, h12⟩ := ob_some h11
          obtain ⟨Sk, h13, h14⟩ := append_kill hl ha h12
          refine ⟨Sk, ?_, h14⟩
          show gd (isSrcD ui.desc) (ob (lenValL (.slice b n1 c1)) fun k => ob (cellsOfL E e.size k (.slice b n1 c1) (kill S l)) fun new => appendL E e elem (.slice a n0 c0) new k (kill S l)) = _
          rw [hsrc, hk]
          show ob (cellsOfL E e.size k (.slice b n1 c1) (kill S l)) _ = _
          rw [cellsOf_kill (ls := []) hb, hnew]
          exact h13
      · cases ht
    · cases ht
/-- What an operation may write to: one elder block, where that can be told. -/
theorem store_frame {o : Op} {r : Value × St} {X : Nat} (hX : storeAt T o = some X) (h : evOp E callF codeF T S o = some r) : ∀ b, b < S.size → b ≠ X → r.2.heap.get b = S.heap.get b := by
  intro b hb hne
  cases o <;> simp only [storeAt] at hX <;> first | (cases hX; done) | skip
  case store t a x =>
    obtain ⟨p, hp, h1⟩ := ob_some h
    rw [hp] at hX
    cases hX
    obtain ⟨v, hv, h2⟩ := ob_some h1
    obtain ⟨S1, hS, h3⟩ := ob_some h2
    cases h3
    obtain ⟨i, hi, h4⟩ := ob_some hS
    obtain ⟨hsz, h5⟩ := gd_some h4
    obtain ⟨hsp, h6⟩ := noSpot_some h5
    obtain ⟨c, hc, h7⟩ := ob_some h6
    obtain ⟨hsc, h8⟩ := gd_some h7
    obtain ⟨d, hdd, h9⟩ := ob_some h8
    cases h9
    exact (get_put).trans (if_neg hne)
  case mapUpdate t m k x =>
    obtain ⟨u, hu, h1⟩ := ob_some h
    obtain ⟨u2, hu2, h2⟩ := ob_some h1
    obtain ⟨u3, hu3, h3⟩ := ob_some h2
    obtain ⟨S1, hS, h4⟩ := ob_some h3
    cases h4
    obtain ⟨i, hi, h5⟩ := ob_some hS
    obtain ⟨d, hdd, h6⟩ := ob_some h5
    obtain ⟨kt, hkt, h7⟩ := ob_some h6
    obtain ⟨rr, hrr, h8⟩ := ob_some h7
    obtain ⟨es, hes, h9⟩ := ob_some h8
    obtain ⟨hkk, h10⟩ := gd_some h9
    obtain ⟨f, hf, h11⟩ := ob_some h10
    cases h11
    rw [hu] at hX
    change refOf u = some X at hX
    rw [hrr] at hX
    cases hX
    exact (get_put).trans (if_neg hne)
  case next x str =>
    obtain ⟨u, hu, h1⟩ := ob_some h
    obtain ⟨a, ha, h2⟩ := ob_some h1
    obtain ⟨hoff, h3⟩ := gd_some h2
    obtain ⟨hsp, h4⟩ := noSpot_some h3
    obtain ⟨oo, hoo, h5⟩ := ob_some h4
    rw [hu] at hX
    change ob (addrOf u) (fun p => some p.block) = some X at hX
    rw [ha] at hX
    cases hX
    unfold nextO at h5
    split at h5
    · cases h5; rfl
    · rename_i s pos
      cases hb : Nat.blt pos s.size with
      | true =>
        rw [hb] at h5
        cases h5
        exact (get_put).trans (if_neg hne)
      | false =>
        rw [hb] at h5
        cases h5; rfl
    · cases h5
  case call c =>
    obtain ⟨args, hargs, h1⟩ := ob_some h
    unfold storeCall at hX
    split at hX
    · rename_i hcal
      rw [hcal] at h1
      change biAppend E c.argTypes.toList args S = some r at h1
      rw [hargs] at hX
      split at hX
      · rename_i a n0 c0 b1 n1 c1 hh
        cases hh
        cases hX
        obtain ⟨t, htt, h2⟩ := ob_some h1
        obtain ⟨u, huu, h3⟩ := ob_some h2
        obtain ⟨s, hs, h4⟩ := ob_some h3
        obtain ⟨x, hx, h5⟩ := ob_some h4
        cases hs; cases hx
        obtain ⟨i, hi, h6⟩ := ob_some h5
        obtain ⟨ui, hui, h7⟩ := ob_some h6
        obtain ⟨elem, hel, h8⟩ := ob_some h7
        obtain ⟨e, hee, h9⟩ := ob_some h8
        have key : ∀ (new : List Value) (k : Nat), appendL E e elem (.slice (some a) n0 c0) new k S = some r → r.2.heap.get b = S.heap.get b := by
          intro new k h
          obtain ⟨q, hq, h1⟩ := ob_some h
          cases hq
          by_cases hk : Nat.beq k 0 = true
          · rw [hk] at h1; cases h1; rfl
          · have hk : Nat.beq k 0 = false := Bool.eq_false_iff.mpr hk
            rw [hk] at h1
            obtain ⟨hc, h2⟩ := gd_some h1
            obtain ⟨cs, hcs, h3⟩ := ob_some h2
            obtain ⟨hel, h4⟩ := gd_some h3
            by_cases hbl : Nat.ble (Nat.add n0 k) c0 = true
            · rw [hbl] at h4
              obtain ⟨cs2, hcs2, h4⟩ := ob_some h4
              obtain ⟨d, hd, h5⟩ := ob_some h4
              cases h5
              exact (get_put).trans (if_neg hne)
            · have hbl : Nat.ble (Nat.add n0 k) c0 = false := Bool.eq_false_iff.mpr hbl
              rw [hbl] at h4
              obtain ⟨d, hd, h5⟩ := ob_some h4
              cases h5
              cases hsp : a.spot with
              | none =>
                show ((S.spent a).new _).heap.get b = _
                rw [spent_none hsp, get_new, if_neg (by omega)]
              | some i =>
                show ((S.spent a).new _).heap.get b = _
                rw [spent_some hsp, get_new, if_neg (by show b ≠ S.size; omega), get_put, if_neg hne]
        cases hz : isIntD ui.desc with
        | true =>
          rw [hz] at h9
          cases (show (none : Option (Value × St)) = some r from h9)
        | false =>
          rw [hz] at h9
          obtain ⟨hsrc, h10⟩ := gd_some h9
          obtain ⟨k, hk, h11⟩ := ob_some h10
          obtain ⟨new, hnew, h12⟩ := ob_some h11
          exact key new k h12
      · cases hX
    · cases hX
/-- The block that an operation writes to is one that its operands lead to. -/
theorem store_dom {o : Op} {X : Nat} {j : Inj} {ρ : Operand → Value} (hX : storeAt T o = some X) (hr : RelOps j T ρ o.operands.toList) : ∃ x, j X = some x := by
  cases o <;> simp only [storeAt] at hX <;> first | (cases hX; done) | skip
  case store t a x =>
    obtain ⟨p, hp, h1⟩ := ob_some hX
    cases h1
    obtain ⟨u, hu, h2⟩ := ob_some hp
    have := addrOf_some h2; subst this
    obtain ⟨_, _, _, x, hx, _⟩ := (hr a (by simp [Op.operands]) _ hu).ptr_inv
    exact ⟨x, hx⟩
  case mapUpdate t m k x =>
    obtain ⟨u, hu, h1⟩ := ob_some hX
    have := refOf_some h1; subst this
    have := hr m (by simp [Op.operands]) _ hu
    generalize ρ m = y at this
    cases this with
    | map h => exact ⟨_, h⟩
  case next a str =>
    obtain ⟨p, hp, h1⟩ := ob_some hX
    cases h1
    obtain ⟨u, hu, h2⟩ := ob_some hp
    have := addrOf_some h2; subst this
    obtain ⟨_, _, _, x, hx, _⟩ := (hr a (by simp [Op.operands]) _ hu).ptr_inv
    exact ⟨x, hx⟩
  case call c =>
    unfold storeCall at hX
    split at hX
    · split at hX
      · rename_i hargs
        cases hX
        have hra : RelOps j T ρ c.args.toList := fun x hx => hr x (by simp only [Op.operands, Call.operands, Array.toList_append]; exact List.mem_append_right _ hx)
        have := RelOps.evs hra hargs
        generalize c.args.toList.map ρ = ys at this
        cases this with
        | cons h _ =>
          cases h with
          | slice h => obtain ⟨x, hx, _⟩ := h; exact ⟨x, hx⟩
      · cases hX
    · cases hX
/-- The block that an operation writes to is among those that it touches. -/
theorem store_touch {o : Op} {X : Nat} (hX : storeAt T o = some X) {lt : List Nat} (ht : touchL T o = some lt) : X ∈ lt := by
  cases o <;> simp only [storeAt] at hX <;> first | (cases hX; done) | skip
  case store t a x =>
    obtain ⟨p, hp, h1⟩ := ob_some hX
    cases h1
    change ob (ob (T.ev a) addrOf) (fun p => some [p.block]) = some lt at ht
    rw [hp] at ht; cases ht; simp
  case mapUpdate t m k x =>
    obtain ⟨u, hu, h1⟩ := ob_some hX
    have := refOf_some h1; subst this
    change ob (T.ev m) mapsOf = some lt at ht
    rw [hu] at ht; cases ht; simp
  case next a str =>
    obtain ⟨p, hp, h1⟩ := ob_some hX
    cases h1
    change ob (ob (T.ev a) addrOf) (fun p => some [p.block]) = some lt at ht
    rw [hp] at ht; cases ht; simp
  case call c =>
    change touchCall T c = some lt at ht
    unfold storeCall at hX
    unfold touchCall at ht
    split at hX
    · rename_i hcal
      rw [hcal] at ht
      split at hX
      · rename_i hargs
        cases hX
        rw [hargs] at ht
        cases ht
        simp [blockOf]
      · cases hX
    · cases hX
end
end
end Go.Proofs.YtncpeobcgmkkbaaGreat
/- A region that draws its order: whatever order is drawn, it does what the evaluator does in the text's order. -/
namespace Go.Proofs.YtncpeobcgmkkbaaGreat

theorem step_T {E : Env} {callF : CallF} {codeF : CodeF} {ops : Array Oper} {o : Oper} {T : Fr} {S : St} {r : Fr × St} (h : stepL E callF codeF ops o T S = some r) : ∃ v, T.put o.dst v = some r.1 := by
  obtain ⟨b, _, h1⟩ := ob_some h
  cases b with
  | false => obtain ⟨T', h2, h3⟩ := ob_some h1; cases h3; exact ⟨_, h2⟩
  | true =>
    obtain ⟨q, _, h2⟩ := ob_some h1
    obtain ⟨T', h3, h4⟩ := ob_some h2
    cases h4; exact ⟨_, h3⟩
theorem put_other {T T' : Fr} {d : Option Tmp} {v : Value} (h : T.put d v = some T') {t : Tmp} (ht : d ≠ some t) : T'.t.get t = T.t.get t := by
  rcases put_some h with ⟨rfl, rfl⟩ | ⟨t', rfl, _, rfl⟩
  · rfl
  · show (T.t.set t' v).get t = _
    rw [Tr.get_set, if_neg (fun e => ht (by rw [e]))]
theorem put_n {T T' : Fr} {d : Option Tmp} {v : Value} (h : T.put d v = some T') : T'.n = T.n := by
  rcases put_some h with ⟨rfl, rfl⟩ | ⟨t', rfl, _, rfl⟩ <;> rfl
theorem step_store {E : Env} {callF : CallF} {codeF : CodeF} {ops : Array Oper} {o : Oper} {T : Fr} {S : St} {r : Fr × St} (h : stepL E callF codeF ops o T S = some r) {X : Nat} (hX : storeAt T o.op = some X) :
    ∀ b, b < S.size → b ≠ X → r.2.heap.get b = S.heap.get b := by
  obtain ⟨b, _, h1⟩ := ob_some h
  cases b with
  | false => obtain ⟨T', h2, h3⟩ := ob_some h1; cases h3; exact fun _ _ _ => rfl
  | true =>
    obtain ⟨q, hq, h2⟩ := ob_some h1
    obtain ⟨T', h3, h4⟩ := ob_some h2
    cases h4
    exact store_frame hX hq
theorem step_kill {E : Env} {callF : CallF} {codeF : CodeF} {ops : Array Oper} {o : Oper} {T : Fr} {S : St} {r : Fr × St} {l : List Nat} (hl : ∀ X ∈ l, X < S.size) (ht : l = [] ∨ ∃ lt, touchL T o.op = some lt ∧ ∀ X ∈ lt, X ∉ l) (h : stepL E callF codeF ops o T S = some r) :
    ∃ Rk, stepL E callF codeF ops o T (kill S l) = some (r.1, Rk) ∧ Killed l r.2 Rk := by
  rcases ht with rfl | ⟨lt, ht, hd⟩
  · exact ⟨r.2, h, rfl, rfl, fun b => by simp⟩
  · obtain ⟨b, hb, h1⟩ := ob_some h
    unfold stepL
    rw [hb]
    cases b with
    | false =>
      obtain ⟨T', h2, h3⟩ := ob_some h1
      cases h3
      refine ⟨kill S l, ?_, killed_self S l⟩
      show putS T o.dst (undef, kill S l) = _
      unfold putS
      rw [h2]; rfl
    | true =>
      obtain ⟨q, hq, h2⟩ := ob_some h1
      obtain ⟨T', h3, h4⟩ := ob_some h2
      cases h4
      obtain ⟨Sk, h5, h6⟩ := op_kill hl ht hd hq
      refine ⟨Sk, ?_, h6⟩
      show ob (evOp E callF codeF T (kill S l) o.op) (putS T o.dst) = _
      rw [h5]
      show putS T o.dst (q.1, Sk) = _
      unfold putS
      rw [h3]; rfl
theorem makerOf_spec {X : Nat} : ∀ (L : List Nat), makerOf X L ≤ L.length ∧ (∀ k s, k < makerOf X L → L[k]? = some s → s ≤ X) ∧ (∀ s, L[makerOf X L]? = some s → X < s)
  | [] => ⟨Nat.le_refl _, fun k s h => by simp [makerOf] at h, fun s h => by simp [makerOf] at h⟩
  | b :: l => by
    obtain ⟨h1, h2, h3⟩ := makerOf_spec (X := X) l
    unfold makerOf
    cases hb : Nat.ble b X with
    | false =>
      refine ⟨Nat.zero_le _, fun k s h => absurd h (Nat.not_lt_zero _), fun s h => ?_⟩
      have : s = b := by simpa [bf] using h.symm
      rw [this]
      rcases Nat.lt_or_ge X b with h4 | h4
      · exact h4
      · rw [Nat.ble_eq_true_of_le h4] at hb; cases hb
    | true =>
      show 1 + makerOf X l ≤ l.length + 1 ∧ (∀ k s, k < 1 + makerOf X l → (b :: l)[k]? = some s → s ≤ X) ∧ ∀ s, (b :: l)[1 + makerOf X l]? = some s → X < s
      refine ⟨by omega, fun k s hk hs => ?_, fun s hs => h3 s (by rw [Nat.add_comm] at hs; simpa using hs)⟩
      cases k with
      | zero => have : b = s := by simpa using hs
                rw [← this]; exact ble_le hb
      | succ k => exact h2 k s (by omega) (by simpa using hs)

section
variable {G : Good} {callF : CallF} {codeF : CodeF} {ops : Array Oper} {T : Nat → Fr} {S R : Nat → St} {D : Nat → Dr}

/-- The k-th operation may have written to the block b. -/
def Wr (ops : Array Oper) (T : Nat → Fr) (S R : Nat → St) (k b : Nat) : Prop :=
  b < (S k).size ∧ (R k).low ≤ b ∧ ∃ o, ops[k]? = some o ∧ (uni (befL ops.toList []) k = true ∨ storeAt (T k) o.op = some b)
/-- Its place is not fixed as a whole: it writes to one block. -/
def One (ops : Array Oper) (T : Nat → Fr) (S R : Nat → St) (k X : Nat) : Prop :=
  k < ops.size ∧ ¬ (S k).size ≤ (R k).low ∧ ¬ uni (befL ops.toList []) k = true ∧ ∃ o, ops[k]? = some o ∧ storeAt (T k) o.op = some X
noncomputable def mkr (S : Nat → St) (k X : Nat) : Nat := makerOf X ((List.range (k + 1)).map fun m => (S m).size) - 1
/-- What is known of the evaluator's way through the region. -/
structure Facts (ops : Array Oper) (T : Nat → Fr) (S R : Nat → St) : Prop where
  size : ∀ k, k < ops.size → (S k).size ≤ (S (k + 1)).size
  lfr : ∀ k b, k < ops.size → b < (S k).size → ¬ Wr ops T S R k b → (S (k + 1)).heap.get b = (S k).heap.get b
  dead : ∀ k b, k < ops.size → b < (S k).size → live (S (k + 1)) b → live (S k) b
  tmp : ∀ k o, ops[k]? = some o → ∃ v, (T k).put o.dst v = some (T (k + 1))
  low : ∀ k, k < ops.size → (S (k + 1)).low ≤ (R k).low ∧ (S (k + 1)).low ≤ (S k).low
  one : ∀ i X k o, One ops T S R i X → ops[k]? = some o → k ≠ i → okPair (befL ops.toList []) (S 0).size i X (mkr S i X) k (touchL (T k) o.op) = true
  made : ∀ i X, One ops T S R i X → X < (S 0).size ∨ Bef ops (mkr S i X) i
  cls : ∀ k b, k < ops.size → Wr ops T S R k b → uni (befL ops.toList []) k = true ∨ One ops T S R k b
theorem draw_ok {bs : List Nat} {i size low : Nat} {T : Fr} {o : Op} {D D' : Dr} (h : drawOk bs i T size low o D = some D') :
    (D.wrs.isEmpty || okReads bs D.r i (touchL T o) D.wrs) = true ∧ D'.r = D.r ∧ D'.starts = D.starts ++ [size] ∧ D'.recs = (i, touchL T o) :: D.recs ∧
      (((size ≤ low ∨ uni bs i = true) ∧ D'.wrs = D.wrs) ∨ ∃ X, storeAt T o = some X ∧ (X < D.r ∨ ((bs[i]?).getD 0).testBit (makerOf X (D.starts ++ [size]) - 1) = true) ∧ okWrites bs D.r i X (makerOf X (D.starts ++ [size]) - 1) D.recs = true ∧
        D'.wrs = (i, X, makerOf X (D.starts ++ [size]) - 1) :: D.wrs) := by
  obtain ⟨h1, h2⟩ := gd_some h
  refine ⟨h1, ?_⟩
  cases hb : (Nat.ble size low || uni bs i) with
  | true =>
    rw [hb] at h2
    cases h2
    refine ⟨rfl, rfl, rfl, .inl ⟨?_, rfl⟩⟩
    simp only [Bool.or_eq_true] at hb
    exact hb.imp ble_le id
  | false =>
    rw [hb] at h2
    obtain ⟨X, hX, h3⟩ := ob_some h2
    obtain ⟨h4, h5⟩ := gd_some h3
    cases h5
    simp only [Bool.and_eq_true, Bool.or_eq_true] at h4
    exact ⟨rfl, rfl, rfl, .inr ⟨X, hX, h4.1.imp blt_lt id, h4.2, rfl⟩⟩
theorem low_sim {j : Inj} {h : Tr LObj} {s l l' : Nat} {w : World} (hs : Sim G j ⟨h, s, l⟩ w) : Sim G j ⟨h, s, l'⟩ w := ⟨hs.dom, hs.objs, hs.inj, hs.rom⟩
theorem facts_of (hG : GoodOK G) (hA : SoundCall G callF) (hC : SoundCode G codeF) (hc : (ops.toList.all fun o => o.op.operands.toList.all constOk) = true) (hw : Way G callF codeF ops T S R D 0 ops.size) (hD0 : D 0 = ⟨(S 0).size, [], [], []⟩)
    {j : Inj} {a : Act} {w : World} (hs : Sim G j (S 0) w) (hT : TRel j (T 0) a.tmps) : Facts ops T S R := by
  have text : ∀ k, k ≤ ops.size → ∃ (j : Inj) (a : Act) (w : World), Sim G j (S k) w ∧ TRel j (T k) a.tmps := by
    intro k
    induction k with
    | zero => exact fun _ => ⟨j, a, w, hs, hT⟩
    | succ k ih =>
      intro hk
      obtain ⟨j1, a1, w1, h1, h2⟩ := ih (by omega)
      obtain ⟨o, ho, h3, h4, _⟩ := hw.step k (Nat.zero_le _) (by omega)
      have hco := List.all_eq_true.1 hc o (by rw [← Array.getElem?_toList] at ho; exact List.mem_of_getElem? ho)
      obtain ⟨_, v, hv, ⟨v', w', j', h5, h6, h7⟩, _⟩ := step_core hG (low_sim (G := G) h1) hA hC (h2.tmps _) hco ho h3 none 0
      refine ⟨j', a1.put o.dst v', w', ?_, (h2.mono h7.sub).put hv h5⟩
      rw [h4]; exact low_sim h6
  have ex : ∀ k, k < ops.size → ∃ j w j' w', Ext (R k).low j ⟨(S k).heap, (S k).size, (S k).size⟩ w j' (R k) w' ∧ (R k).low ≤ (S k).size := by
    intro k hk
    obtain ⟨j1, a1, w1, h1, h2⟩ := text k (Nat.le_of_lt hk)
    obtain ⟨o, ho, h3, h4, _⟩ := hw.step k (Nat.zero_le _) hk
    have hco := List.all_eq_true.1 hc o (by rw [← Array.getElem?_toList] at ho; exact List.mem_of_getElem? ho)
    obtain ⟨hl, v, hv, ⟨v', w', j', h5, h6, h7⟩, _⟩ := step_core hG (low_sim (G := G) h1) hA hC (h2.tmps _) hco ho h3 none 0
    exact ⟨j1, w1, j', w', h7, hl⟩
  have inv : ∀ k, k ≤ ops.size → (D k).r = (S 0).size ∧ (D k).starts = (List.range k).map (fun m => (S m).size) ∧ (∀ m o, m < k → ops[m]? = some o → (m, touchL (T m) o.op) ∈ (D k).recs) ∧
      (∀ m X, m < k → One ops T S R m X → (m, X, mkr S m X) ∈ (D k).wrs) := by
    intro k
    induction k with
    | zero => intro _; rw [hD0]; exact ⟨rfl, rfl, fun m o h => by omega, fun m X h => by omega⟩
    | succ k ih =>
      intro hk
      obtain ⟨h1, h2, h3, h4⟩ := ih (by omega)
      obtain ⟨o, ho, h5, h6, h7⟩ := hw.step k (Nat.zero_le _) (by omega)
      obtain ⟨h8, h9, h10, h11, h12⟩ := draw_ok h7
      refine ⟨h9.trans h1, ?_, ?_, ?_⟩
      · rw [h10, h2, List.range_succ, List.map_append]; rfl
      · intro m o' hm ho'
        rw [h11]
        by_cases e : m = k
        · subst e; rw [ho] at ho'; cases ho'; simp
        · exact List.mem_cons_of_mem _ (h3 m o' (by omega) ho')
      · intro m X hm hone
        by_cases e : m = k
        · subst e
          obtain ⟨_, hn1, hn2, o', ho', hst⟩ := hone
          rw [ho] at ho'; cases ho'
          rcases h12 with ⟨h13, _⟩ | ⟨X', h13, _, _, h14⟩
          · rcases h13 with h13 | h13
            · exact absurd h13 hn1
            · exact absurd h13 hn2
          · rw [hst] at h13; cases h13
            rw [h14]
            have : mkr S m X = makerOf X ((D m).starts ++ [(S m).size]) - 1 := by
              unfold mkr; rw [h2, List.range_succ, List.map_append]; rfl
            rw [this]; simp
        · have := h4 m X (by omega) hone
          rcases h12 with ⟨_, h14⟩ | ⟨X', _, _, _, h14⟩
          · rw [h14]; exact this
          · rw [h14]; exact List.mem_cons_of_mem _ this
  refine ⟨?_, ?_, ?_, ?_, ?_, ?_, ?_, ?_⟩
  · intro k hk
    obtain ⟨_, _, _, _, h1, _⟩ := ex k hk
    obtain ⟨_, _, _, h2, _⟩ := hw.step k (Nat.zero_le _) hk
    rw [h2]; exact h1.size
  · intro k b hk hb hn
    obtain ⟨_, _, _, _, h1, _⟩ := ex k hk
    obtain ⟨o, ho, h3, h2, h4⟩ := hw.step k (Nat.zero_le _) hk
    rw [h2]
    show (R k).heap.get b = _
    by_cases hlo : b < (R k).low
    · exact h1.lfr b hb hlo
    · obtain ⟨_, _, _, _, h12⟩ := draw_ok h4
      rcases h12 with ⟨h13, _⟩ | ⟨X, h13, _⟩
      · rcases h13 with h13 | h13
        · exact absurd (Nat.lt_of_lt_of_le hb h13) hlo
        · exact absurd ⟨hb, by omega, o, ho, .inl h13⟩ hn
      · refine step_store h3 h13 b hb fun e => hn ⟨hb, by omega, o, ho, .inr (by rw [e]; exact h13)⟩
  · intro k b hk hb hv
    obtain ⟨_, _, _, _, h1, _⟩ := ex k hk
    obtain ⟨_, _, _, h2, _⟩ := hw.step k (Nat.zero_le _) hk
    rw [h2] at hv
    exact h1.dead b hb hv
  · intro k o ho
    have hk : k < ops.size := (Array.getElem?_eq_some_iff.1 ho).1
    obtain ⟨o', ho', h3, _⟩ := hw.step k (Nat.zero_le _) hk
    rw [ho] at ho'; cases ho'
    exact step_T h3
  · intro k hk
    obtain ⟨_, _, _, h2, _⟩ := hw.step k (Nat.zero_le _) hk
    rw [h2]
    exact ⟨Nat.min_le_right _ _, Nat.min_le_left _ _⟩
  · intro i X k o hone hk hne
    have hk' : k < ops.size := (Array.getElem?_eq_some_iff.1 hk).1
    have hi' := hone.1
    by_cases hlt : k < i
    · obtain ⟨o', ho', _, _, h7⟩ := hw.step i (Nat.zero_le _) hi'
      obtain ⟨h1, h2, h3, h4⟩ := inv i (Nat.le_of_lt hi')
      obtain ⟨h8, h9, h10, h11, h12⟩ := draw_ok h7
      obtain ⟨_, hn1, hn2, o2, ho2, hst⟩ := hone
      rw [ho'] at ho2; cases ho2
      rcases h12 with ⟨h13, _⟩ | ⟨X', h13, _, h15, _⟩
      · rcases h13 with h13 | h13
        · exact absurd h13 hn1
        · exact absurd h13 hn2
      · rw [hst] at h13; cases h13
        have := List.all_eq_true.1 h15 _ (h3 k o hlt hk)
        rw [h1] at this
        have e : mkr S i X = makerOf X ((D i).starts ++ [(S i).size]) - 1 := by
          unfold mkr; rw [h2, List.range_succ, List.map_append]; rfl
        rw [e]; exact this
    · obtain ⟨o', ho', _, _, h7⟩ := hw.step k (Nat.zero_le _) hk'
      rw [hk] at ho'; cases ho'
      obtain ⟨h1, h2, h3, h4⟩ := inv k (Nat.le_of_lt hk')
      obtain ⟨h8, _⟩ := draw_ok h7
      have hmem := h4 i X (by omega) hone
      simp only [Bool.or_eq_true, List.isEmpty_iff] at h8
      rcases h8 with h8 | h8
      · rw [h8] at hmem; cases hmem
      · have := List.all_eq_true.1 h8 _ hmem
        rw [h1] at this
        exact this
  · intro i X hone
    have hi' := hone.1
    obtain ⟨o', ho', _, _, h7⟩ := hw.step i (Nat.zero_le _) hi'
    obtain ⟨h1, h2, h3, h4⟩ := inv i (Nat.le_of_lt hi')
    obtain ⟨h8, h9, h10, h11, h12⟩ := draw_ok h7
    obtain ⟨_, hn1, hn2, o2, ho2, hst⟩ := hone
    rw [ho'] at ho2; cases ho2
    rcases h12 with ⟨h13, _⟩ | ⟨X', h13, h14, _, _⟩
    · rcases h13 with h13 | h13
      · exact absurd h13 hn1
      · exact absurd h13 hn2
    · rw [hst] at h13; cases h13
      have e : mkr S i X = makerOf X ((D i).starts ++ [(S i).size]) - 1 := by
        unfold mkr; rw [h2, List.range_succ, List.map_append]; rfl
      rw [h1] at h14
      rw [e]; exact h14
  · intro k b hk hwr
    obtain ⟨hb, hlo, o, ho, h1⟩ := hwr
    rcases h1 with h1 | h1
    · exact .inl h1
    · by_cases hu : uni (befL ops.toList []) k = true
      · exact .inl hu
      · exact .inr ⟨hk, by omega, hu, o, ho, h1⟩
end
end Go.Proofs.YtncpeobcgmkkbaaGreat
/- A region that draws its order: one step, out of whatever has been done. -/
namespace Go.Proofs.YtncpeobcgmkkbaaGreat
section
variable {G : Good} {callF : CallF} {codeF : CodeF} {ops : Array Oper} {T : Nat → Fr} {S R : Nat → St}

theorem Facts.size_mono (F : Facts ops T S R) {k k' : Nat} (h : k ≤ k') (hk : k' ≤ ops.size) : (S k).size ≤ (S k').size := by
  induction k' with
  | zero => obtain rfl : k = 0 := by omega
            exact Nat.le_refl _
  | succ n ih =>
    by_cases e : k = n + 1
    · rw [e]; exact Nat.le_refl _
    · exact Nat.le_trans (ih (by omega) (by omega)) (F.size n (by omega))
theorem Facts.low_mono (F : Facts ops T S R) {k k' : Nat} (h : k ≤ k') (hk : k' ≤ ops.size) : (S k').low ≤ (S k).low := by
  induction k' with
  | zero => obtain rfl : k = 0 := by omega
            exact Nat.le_refl _
  | succ n ih =>
    by_cases e : k = n + 1
    · rw [e]; exact Nat.le_refl _
    · exact Nat.le_trans (F.low n (by omega)).2 (ih (by omega) (by omega))
theorem Facts.low_le (F : Facts ops T S R) {k : Nat} (hk : k < ops.size) : (S ops.size).low ≤ (R k).low := Nat.le_trans (F.low_mono (show k + 1 ≤ ops.size from hk) (Nat.le_refl _)) (F.low k hk).1
theorem Facts.dead_mono (F : Facts ops T S R) {k k' b : Nat} (h : k ≤ k') (hk : k' ≤ ops.size) (hb : b < (S k).size) : live (S k') b → live (S k) b := by
  induction k' with
  | zero => obtain rfl : k = 0 := by omega
            exact id
  | succ n ih =>
    by_cases e : k = n + 1
    · rw [e]; exact id
    · exact fun hv => ih (by omega) (by omega) (F.dead n b (by omega) (Nat.lt_of_lt_of_le hb (F.size_mono (show k ≤ n by omega) (by omega))) hv)
theorem Facts.keep (F : Facts ops T S R) {k k' b : Nat} (h : k ≤ k') (hk : k' ≤ ops.size) (hb : b < (S k).size) (hn : ∀ m, k ≤ m → m < k' → ¬ Wr ops T S R m b) : (S k').heap.get b = (S k).heap.get b := by
  induction k' with
  | zero => obtain rfl : k = 0 := by omega
            rfl
  | succ n ih =>
    by_cases e : k = n + 1
    · rw [e]
    · rw [F.lfr n b (by omega) (Nat.lt_of_lt_of_le hb (F.size_mono (show k ≤ n by omega) (by omega))) (hn n (by omega) (by omega))]
      exact ih (by omega) (by omega) fun m h1 h2 => hn m h1 (by omega)
theorem Facts.tkeep (F : Facts ops T S R) {k k' t : Nat} (h : k ≤ k') (hk : k' ≤ ops.size) (hn : ∀ m o, k ≤ m → m < k' → ops[m]? = some o → o.dst ≠ some t) : (T k').t.get t = (T k).t.get t := by
  induction k' with
  | zero => obtain rfl : k = 0 := by omega
            rfl
  | succ n ih =>
    by_cases e : k = n + 1
    · rw [e]
    · have hlt : n < ops.size := by omega
      obtain ⟨v, hv⟩ := F.tmp n ops[n] (Array.getElem?_eq_getElem hlt)
      rw [put_other hv (hn n _ (by omega) (by omega) (Array.getElem?_eq_getElem hlt))]
      exact ih (by omega) (by omega) fun m o h1 h2 => hn m o h1 (by omega)
theorem Facts.tn (F : Facts ops T S R) {k : Nat} (hk : k ≤ ops.size) : (T k).n = (T 0).n := by
  induction k with
  | zero => rfl
  | succ n ih =>
    have hlt : n < ops.size := by omega
    obtain ⟨v, hv⟩ := F.tmp n ops[n] (Array.getElem?_eq_getElem hlt)
    rw [put_n hv]; exact ih (by omega)
theorem Facts.uniq (F : Facts ops T S R) {m m' b : Nat} (hm : m < ops.size) (hm' : m' < ops.size) (h1 : (S m).size ≤ b) (h2 : b < (S (m + 1)).size) (h3 : (S m').size ≤ b) (h4 : b < (S (m' + 1)).size) : m = m' := by
  rcases Nat.lt_trichotomy m m' with h | h | h
  · have := F.size_mono (show m + 1 ≤ m' from h) (by omega); omega
  · exact h
  · have := F.size_mono (show m' + 1 ≤ m from h) (by omega); omega
theorem Facts.mkr_spec (F : Facts ops T S R) {i X : Nat} (hi : i < ops.size) (h1 : (S 0).size ≤ X) (h2 : X < (S i).size) : mkr S i X < i ∧ (S (mkr S i X)).size ≤ X ∧ X < (S (mkr S i X + 1)).size := by
  obtain ⟨h3, h4, h5⟩ := makerOf_spec (X := X) ((List.range (i + 1)).map fun m => (S m).size)
  have hget : ∀ k, k < i + 1 → ((List.range (i + 1)).map fun m => (S m).size)[k]? = some (S k).size := fun k hk => by simp [hk]
  have hc0 : makerOf X ((List.range (i + 1)).map fun m => (S m).size) ≠ 0 := fun e => by
    rw [e] at h5
    have := h5 _ (hget 0 (by omega)); omega
  have hci : makerOf X ((List.range (i + 1)).map fun m => (S m).size) ≤ i := by
    rcases Nat.lt_or_ge i (makerOf X ((List.range (i + 1)).map fun m => (S m).size)) with h | h
    · have := h4 i _ h (hget i (by omega)); omega
    · exact h
  unfold mkr
  refine ⟨by omega, h4 _ _ (by omega) (hget _ (by omega)), ?_⟩
  rw [show makerOf X ((List.range (i + 1)).map fun m => (S m).size) - 1 + 1 = makerOf X ((List.range (i + 1)).map fun m => (S m).size) by omega]
  exact h5 _ (hget _ (by omega))

def View (ops : Array Oper) (T : Nat → Fr) (S R : Nat → St) (p : Nat → Prop) (b k : Nat) : Prop := ∀ m, m < ops.size → Wr ops T S R m b → (p m ↔ m < k)
def TView (ops : Array Oper) (p : Nat → Prop) (t k : Nat) : Prop := ∀ m o, ops[m]? = some o → o.dst = some t → (p m ↔ m < k)
theorem Facts.view_eq (F : Facts ops T S R) {p : Nat → Prop} {b k k' : Nat} (hk : k ≤ ops.size) (hk' : k' ≤ ops.size) (hb : b < (S k).size) (hb' : b < (S k').size) (h : View ops T S R p b k) (h' : View ops T S R p b k') : (S k).heap.get b = (S k').heap.get b := by
  rcases Nat.le_total k k' with hle | hle
  · refine (F.keep hle hk' hb fun m h1 h2 hw => ?_).symm
    have := (h m (by omega) hw).1 ((h' m (by omega) hw).2 h2); omega
  · refine F.keep hle hk hb' fun m h1 h2 hw => ?_
    have := (h' m (by omega) hw).1 ((h m (by omega) hw).2 h2); omega

/-- What holds where the operations of p have been carried out. -/
structure Inv (G : Good) (ops : Array Oper) (T : Nat → Fr) (S R : Nat → St) (j0 : Inj) (a0 : Act) (w0 : World) (p : Nat → Prop) (a : Act) (w : World) (j : Inj) : Prop where
  sub : Le j0 j
  dom : ∀ b x, j b = some x → x.blk < w.heap.size ∧ ((b < (S 0).size ∧ j0 b = some x) ∨ ∃ m, m < ops.size ∧ p m ∧ (S m).size ≤ b ∧ b < (S (m + 1)).size)
  all : ∀ m, m < ops.size → p m → ∀ b, (S m).size ≤ b → b < (S (m + 1)).size → ∃ x, j b = some x
  tmps : ∀ t k, k ≤ ops.size → TView ops p t k → ∀ v, (T k).t.get t = some v → ∃ v', a.tmps[t]? = some v' ∧ VRel j v v'
  mem : ∀ b x k o, j b = some x → k ≤ ops.size → b < (S k).size → View ops T S R p b k → (S k).heap.get b = some o → ∃ o', w.heap[x.blk]? = some o' ∧ ORel G j x o o'
  inj : ∀ b c x y k k', j b = some x → j c = some y → k ≤ ops.size → b < (S k).size → View ops T S R p b k → live (S k) b → k' ≤ ops.size → c < (S k').size → View ops T S R p c k' → live (S k') c → x.blk = y.blk → b = c
  defs : a.defers = a0.defers
  tsz : a.tmps.size = a0.tmps.size
  heap : w0.heap.size ≤ w.heap.size
  fr : ∀ c, c < w0.heap.size → (∀ b x, j0 b = some x → (S ops.size).low ≤ b → live (S 0) b → x.blk ≠ c) → w.heap[c]? = w0.heap[c]?
  new : ∀ b x, j b = some x → j0 b = none → w0.heap.size ≤ x.blk ∨ ∃ c y, j0 c = some y ∧ (S ops.size).low ≤ c ∧ live (S 0) c ∧ y.blk = x.blk
  io : SameIo w0 w

theorem ORel.meet {j k : Inj} {x y : JB} {o : LObj} {o' o'' : Obj} (h : ORel G j x o o') (h' : ORel G k y o o'') : ORel G (meet j k) x o o' := by
  cases o with
  | cells c e =>
    obtain ⟨c', e', h1, h2, h3, h4, h5⟩ := h
    obtain ⟨_, _, _, _, _, _, h6⟩ := h'
    exact ⟨c', e', h1, h2, h3, h4, fun i v hi => let ⟨v', a, b⟩ := h5 i v hi; let ⟨_, _, d⟩ := h6 i v hi; ⟨v', a, b.meet d⟩⟩
  | map es =>
    obtain ⟨es', c, h1, h2, h3⟩ := h
    obtain ⟨_, _, _, _, h4⟩ := h'
    exact ⟨es', c, h1, h2, fun i p hi => let ⟨e, a, b, d⟩ := h3 i p hi; let ⟨_, _, b', d'⟩ := h4 i p hi; ⟨e, a, b.meet b', d.meet d'⟩⟩
  | loop st pd T ps asg body =>
    obtain ⟨L, h1, h2, h3, h4, h5, h6, h7, h8⟩ := h
    obtain ⟨_, _, _, _, _, _, _, h9, _⟩ := h'
    exact ⟨L, h1, h2, h3, h4, h5, h6, ⟨h7.1, fun t v hv => let ⟨v', a, b⟩ := h7.2 t v hv; let ⟨_, _, d⟩ := h9.2 t v hv; ⟨v', a, b.meet d⟩⟩, h8⟩
  | nilIter => exact h
  | strIter s pos => exact h
  | dead => trivial

variable {j0 : Inj} {a0 : Act} {w0 : World}
theorem inv_start {p : Nat → Prop} (hp : ∀ m, m < ops.size → ¬ p m) (F : Facts ops T S R) (hs : Sim G j0 (S 0) w0) (hT : TRel j0 (T 0) a0.tmps) {w : World} (hw : w.heap = w0.heap) (hio : SameIo w0 w := by exact ⟨rfl, rfl, rfl⟩) : Inv G ops T S R j0 a0 w0 p a0 w j0 where
  io := hio
  sub := Le.refl _
  dom := fun b x hb => ⟨by rw [hw]; exact (hs.dom b x hb).2, .inl ⟨(hs.dom b x hb).1, hb⟩⟩
  all := fun m hm h => absurd h (hp m hm)
  tmps := fun t k hk hv v hg => by
    rw [F.tkeep (Nat.zero_le k) hk fun m o _ h2 ho e => hp m (by omega) ((hv m o ho e).2 h2)] at hg
    exact hT.2 t v hg
  mem := fun b x k o hb hk _ hv ho => by
    rw [F.keep (Nat.zero_le k) hk (hs.dom b x hb).1 fun m _ h2 e => hp m (by omega) ((hv m (by omega) e).2 h2)] at ho
    rw [hw]; exact hs.objs b x o hb ho
  inj := fun b c x y k k' hb hc hk _ hv lb hk' _ hv' lc e => hs.inj b c x y hb hc (F.dead_mono (Nat.zero_le k) hk (hs.dom b x hb).1 lb) (F.dead_mono (Nat.zero_le k') hk' (hs.dom c y hc).1 lc) e
  defs := rfl
  tsz := rfl
  heap := by rw [hw]; exact Nat.le_refl _
  fr := fun c _ _ => by rw [hw]
  new := fun b x hb hn => by rw [hb] at hn; cases hn

theorem inv_rom {p : Nat → Prop} (F : Facts ops T S R) (hs0 : Sim G j0 (S 0) w0) {a : Act} {w : World} {j jm : Inj} (hI : Inv G ops T S R j0 a0 w0 p a w j) (h0 : Le j0 jm) (hm : Le jm j) {X : St} (hX : ∀ d, live X d → ∃ i, i ≤ ops.size ∧ live (S i) d) : Rom G jm X w := by
  intro b c hb
  obtain ⟨x, hx, hrb, h6⟩ := hs0.rom b c hb
  refine ⟨x, h0 b x hx, fun hne => ?_, fun d y hd hl e => ?_⟩
  obtain ⟨c', e', fr, h1, h2, h3, h4, h5⟩ := hrb hne
  refine ⟨c', e', fr, ?_, h2, h3, h4, fun i v hi => ?_⟩
  · rw [hI.fr x.blk (hs0.dom b x hx).2 fun d y hd _ hl => h6 d y hd hl]; exact h1
  · obtain ⟨v', k1, k2⟩ := h5 i v hi
    exact ⟨v', k1, k2.mono h0⟩
  · have hjd := hm d y hd
    cases hj0 : j0 d with
    | some z =>
      have := hI.sub d z hj0
      rw [hjd] at this; cases this
      obtain ⟨i, hi, hl'⟩ := hX d hl
      exact h6 d y hj0 (F.dead_mono (Nat.zero_le i) hi (hs0.dom d y hj0).1 hl') e
    | none =>
      rcases hI.new d y hjd hj0 with h7 | ⟨k, z, h8, _, h9, h10⟩
      · have := (hs0.dom b x hx).2; omega
      · exact h6 k z h8 h9 (by rw [h10, e])
/-- Two operations of which one writes what the other may reach: their order is fixed, or the other one doesn't touch it. -/
theorem conf (F : Facts ops T S R) {i m b : Nat} {oi : Oper} (hoi : ops[i]? = some oi) (hm : m < ops.size) (hne : i ≠ m) (hwr : Wr ops T S R m b) {a : Act} {w : World} {j : Inj} (hI : Inv G ops T S R j0 a0 w0 (fun m => Bef ops m i) a w j) {x : JB} (hx : j b = some x) :
    (Bef ops m i ∨ Bef ops i m) ∨ (One ops T S R m b ∧ ∃ lt, touchL (T i) oi.op = some lt ∧ b ∉ lt) := by
  have hi : i < ops.size := (Array.getElem?_eq_some_iff.1 hoi).1
  rcases F.cls m b hm hwr with hu | hone
  · exact .inl ((uni_spec hu i hi hne).symm)
  · have h1 := F.one m b i oi hone hoi hne
    unfold okPair at h1
    simp only [Bool.or_eq_true, Bool.and_eq_true, Bool.not_eq_true'] at h1
    rcases h1 with h1 | h1 | h1
    · exact .inl ((compL_iff.1 h1).symm)
    · exfalso
      obtain ⟨h2, h3⟩ := h1
      have h2 := ble_le h2
      rcases (hI.dom b x hx).2 with ⟨h4, _⟩ | ⟨m', h4, h5, h6, h7⟩
      · omega
      · obtain ⟨h8, h9, h10⟩ := F.mkr_spec hm h2 hwr.1
        have := F.uniq (by omega) h4 h9 h10 h6 h7
        rw [this] at h3
        unfold Bef at h5
        rw [h5] at h3; cases h3
    · refine .inr ⟨hone, ?_⟩
      cases ht : touchL (T i) oi.op with
      | none => rw [ht] at h1; cases h1
      | some lt =>
        rw [ht] at h1
        refine ⟨lt, rfl, fun hb => ?_⟩
        have := List.all_eq_true.1 h1 b hb
        simp at this
end
end Go.Proofs.YtncpeobcgmkkbaaGreat
/- A region that draws its order: the step, and the whole. -/
namespace Go.Proofs.YtncpeobcgmkkbaaGreat
section
variable {G : Good} {callF : CallF} {codeF : CodeF} {ops : Array Oper} {T : Nat → Fr} {S R : Nat → St} {D : Nat → Dr} {j0 : Inj} {a0 : Act} {w0 : World}

theorem meet_inv {j k : Inj} {b : Nat} {x : JB} (h : meet j k b = some x) : j b = some x ∧ ∃ y, k b = some y := by
  unfold meet at h
  split at h
  · rename_i hk; exact ⟨h, Option.isSome_iff_exists.1 hk⟩
  · cases h
theorem fresh_bef (F : Facts ops T S R) {i m b : Nat} (hi : i < ops.size) (hm : m < ops.size) (h1 : (S i).size ≤ b) (h2 : b < (S (i + 1)).size) (hne : i ≠ m) (hdr : Drawn ops) (him : i < m) (hwr : Wr ops T S R m b) : Bef ops i m := by
  rcases F.cls m b hm hwr with hu | hone
  · rcases uni_spec hu i hi hne with h | h
    · exact h
    · have := bef_lt hdr.edge h; omega
  · have h0 := F.size_mono (Nat.zero_le i) (Nat.le_of_lt hi)
    rcases F.made m b hone with h | h
    · omega
    · obtain ⟨h3, h4, h5⟩ := F.mkr_spec hm (by omega) hwr.1
      have := F.uniq (by omega) hi h4 h5 h1 h2
      rw [this] at h; exact h

open Classical in
theorem main_step (hG : GoodOK G) (hA : SoundCall G callF) (hC : SoundCode G codeF) (hc : (ops.toList.all fun o => o.op.operands.toList.all constOk) = true) (hw : Way G callF codeF ops T S R D 0 ops.size) (F : Facts ops T S R) (hdr : Drawn ops)
    (hs0 : Sim G j0 (S 0) w0) (hT0 : (T 0).n ≤ a0.tmps.size) {p : Nat → Prop} {a : Act} {w : World} {j : Inj} {i : Nat} {oi : Oper} (hoi : ops[i]? = some oi) (hpi : ¬ p i) (hpB : ∀ m, Bef ops m i → p m) (hcl : Cl ops p)
    (hI : Inv G ops T S R j0 a0 w0 p a w j) {ac : Act} {wc : World} {jc : Inj} (hK : Inv G ops T S R j0 a0 w0 (fun m => Bef ops m i) ac wc jc) (rd' : Option Nat) (n : Nat) :
    (∃ v' w' j', Inv G ops T S R j0 a0 w0 (fun m => p m ∨ m = i) (a.put oi.dst v') w' j') ∧
    ∀ (K : Act → World → Prop) (Q : Exit → Act → World → Prop), (∀ v' w' j', Inv G ops T S R j0 a0 w0 (fun m => p m ∨ m = i) (a.put oi.dst v') w' j' → K (a.put oi.dst v') w') → wpOpIn (fenceOf rd') n G.P ops Q i K a w := by
  have hi : i < ops.size := (Array.getElem?_eq_some_iff.1 hoi).1
  obtain ⟨o, ho, hst, hS1, _⟩ := hw.step i (Nat.zero_le _) hi
  rw [hoi] at ho; cases ho
  have hco := List.all_eq_true.1 hc oi (by rw [← Array.getElem?_toList] at hoi; exact List.mem_of_getElem? hoi)
  have hmono := F.size i hi
  have h0i := F.size_mono (Nat.zero_le i) (Nat.le_of_lt hi)
  -- what is ordered against i
  have cmp : ∀ m, (Bef ops m i ∨ Bef ops i m) → (p m ↔ m < i) ∧ (Bef ops m i ↔ m < i) := by
    intro m h
    rcases h with h | h
    · have := bef_lt hdr.edge h
      exact ⟨⟨fun _ => this, fun _ => hpB m h⟩, ⟨fun _ => this, fun _ => h⟩⟩
    · have h1 := bef_lt hdr.edge h
      exact ⟨⟨fun hp => absurd (bef_closed h hcl hp) hpi, fun h2 => by omega⟩, ⟨fun h2 => by have := bef_lt hdr.edge h2; omega, fun h2 => by omega⟩⟩
  have self : ∀ m, m = i → (p m ↔ m < i) ∧ (Bef ops m i ↔ m < i) := by
    rintro m rfl
    exact ⟨⟨fun h => absurd h hpi, fun h => by omega⟩, ⟨fun h => bef_lt hdr.edge h, fun h => by omega⟩⟩
  have hconf : ∀ m b, m < ops.size → i ≠ m → Wr ops T S R m b → (∃ y, jc b = some y) → (Bef ops m i ∨ Bef ops i m) ∨ (One ops T S R m b ∧ ∃ lt, touchL (T i) oi.op = some lt ∧ b ∉ lt) := by
    rintro m b hm hne hwr ⟨y, hy⟩
    exact conf F hoi hm hne hwr hK hy
  -- the blocks to give up
  obtain ⟨NK, hNK⟩ : ∃ NK : Nat → Prop, ∀ X, NK X ↔ X < (S i).size ∧ (∃ y, jc X = some y) ∧ ∃ m, m < ops.size ∧ i ≠ m ∧ Wr ops T S R m X ∧ ¬ (Bef ops m i ∨ Bef ops i m) := ⟨_, fun _ => Iff.rfl⟩
  obtain ⟨l, hl⟩ : ∃ l : List Nat, ∀ X, X ∈ l ↔ NK X := by
    refine ⟨((List.range ops.size).filterMap fun m => (ops[m]?).bind fun o => storeAt (T m) o.op).filter (fun X => decide (NK X)), fun X => ?_⟩
    rw [List.mem_filter, decide_eq_true_eq]
    refine ⟨fun h => h.2, fun h => ⟨?_, h⟩⟩
    obtain ⟨_, hy, m, hm, hne, hwr, hnc⟩ := (hNK X).1 h
    rcases hconf m X hm hne hwr hy with h1 | ⟨⟨_, _, _, o, ho, hst⟩, _⟩
    · exact absurd h1 hnc
    · exact List.mem_filterMap.2 ⟨m, by simpa using hm, by rw [ho]; exact hst⟩
  have hllt : ∀ X ∈ l, X < (S i).size := fun X hX => ((hNK X).1 ((hl X).1 hX)).1
  have hlt : ∀ X ∈ l, ∃ lt, touchL (T i) oi.op = some lt ∧ X ∉ lt := by
    intro X hX
    obtain ⟨_, hy, m, hm, hne, hwr, hnc⟩ := (hNK X).1 ((hl X).1 hX)
    rcases hconf m X hm hne hwr hy with h1 | ⟨_, h1⟩
    · exact absurd h1 hnc
    · exact h1
  have htouch : l = [] ∨ ∃ lt, touchL (T i) oi.op = some lt ∧ ∀ X ∈ lt, X ∉ l := by
    by_cases he : l = []
    · exact .inl he
    · obtain ⟨X, hX⟩ := List.exists_mem_of_ne_nil l he
      obtain ⟨lt, h1, _⟩ := hlt X hX
      refine .inr ⟨lt, h1, fun Y hY hYl => ?_⟩
      obtain ⟨lt', h2, h3⟩ := hlt Y hYl
      rw [h1] at h2; cases h2
      exact h3 hY
  obtain ⟨Rk, hstk, hkd⟩ := step_kill (S := ⟨(S i).heap, (S i).size, (S i).size⟩) hllt htouch hst
  have hkg : ∀ b, (kill ⟨(S i).heap, (S i).size, (S i).size⟩ l).heap.get b = if b ∈ l then some .dead else (S i).heap.get b := fun b => get_kill _ _ _
  -- the views of what i may reach
  have hV : ∀ b, (∃ y, jc b = some y) → b ∉ l → b < (S i).size → View ops T S R p b i ∧ View ops T S R (fun m => Bef ops m i) b i := by
    intro b hy hbl hb
    have key : ∀ m, m < ops.size → Wr ops T S R m b → (p m ↔ m < i) ∧ (Bef ops m i ↔ m < i) := by
      intro m hm hwr
      by_cases hmi : m = i
      · exact self m hmi
      · by_cases hcm : Bef ops m i ∨ Bef ops i m
        · exact cmp m hcm
        · exact absurd ((hl b).2 ((hNK b).2 ⟨hb, hy, m, hm, fun e => hmi e.symm, hwr, hcm⟩)) hbl
    exact ⟨fun m hm hwr => (key m hm hwr).1, fun m hm hwr => (key m hm hwr).2⟩
  have hcdom : ∀ b y, jc b = some y → b < (S i).size := by
    intro b y hb
    rcases (hK.dom b y hb).2 with ⟨h1, _⟩ | ⟨m, hm, h1, h2, h3⟩
    · omega
    · have := bef_lt hdr.edge h1
      have := F.size_mono (show m + 1 ≤ i from this) (Nat.le_of_lt hi)
      omega
  have hlv : ∀ b, live (kill ⟨(S i).heap, (S i).size, (S i).size⟩ l) b → b ∉ l ∧ live (S i) b := by
    rintro b ⟨o, ho, hd⟩
    rw [hkg] at ho
    split at ho
    · cases ho; exact absurd rfl hd
    · rename_i h; exact ⟨h, o, ho, hd⟩
  have hSim : Sim G (meet j jc) (kill ⟨(S i).heap, (S i).size, (S i).size⟩ l) w := by
    refine ⟨fun b x hb => ?_, fun b x o hb ho => ?_, fun b c x y hb hcb lb lc e => ?_, inv_rom F hs0 hI (fun b x hb => meet_of (hI.sub b x hb) (hK.sub b x hb)) (meet_le j jc) (fun d hd => ⟨i, Nat.le_of_lt hi, (hlv d hd).2⟩)⟩
    · obtain ⟨h1, y, h2⟩ := meet_inv hb
      exact ⟨hcdom b y h2, (hI.dom b x h1).1⟩
    · obtain ⟨h1, y, h2⟩ := meet_inv hb
      rw [hkg] at ho
      split at ho
      · cases ho
        have := (hI.dom b x h1).1
        exact ⟨w.heap[x.blk], by rw [Array.getElem?_eq_getElem], trivial⟩
      · rename_i hbl
        have hb' := hcdom b y h2
        obtain ⟨v1, v2⟩ := hV b ⟨y, h2⟩ hbl hb'
        obtain ⟨o', h3, h4⟩ := hI.mem b x i o h1 (Nat.le_of_lt hi) hb' v1 ho
        obtain ⟨o'', _, h5⟩ := hK.mem b y i o h2 (Nat.le_of_lt hi) hb' v2 ho
        exact ⟨o', h3, h4.meet h5⟩
    · obtain ⟨h1, y1, h2⟩ := meet_inv hb
      obtain ⟨h3, y2, h4⟩ := meet_inv hcb
      obtain ⟨lb1, lb2⟩ := hlv b lb
      obtain ⟨lc1, lc2⟩ := hlv c lc
      exact hI.inj b c x y i i h1 h3 (Nat.le_of_lt hi) (hcdom b y1 h2) (hV b ⟨y1, h2⟩ lb1 (hcdom b y1 h2)).1 lb2 (Nat.le_of_lt hi) (hcdom c y2 h4) (hV c ⟨y2, h4⟩ lc1 (hcdom c y2 h4)).1 lc2 e
  have hRel : RelTmps (meet j jc) (T i) a.tmps (readsOf ops oi) := by
    intro t ht v hv
    have key : ∀ m o, ops[m]? = some o → o.dst = some t → (p m ↔ m < i) ∧ (Bef ops m i ↔ m < i) := by
      intro m o ho hd
      rcases Nat.lt_trichotomy m i with h | h | h
      · rcases hdr.apart m i o oi ho hoi h with h1 | ⟨h1, _⟩
        · exact cmp m (.inl h1)
        · exact absurd ht (h1 t hd).1
      · exact self m h
      · rcases hdr.apart i m oi o hoi ho h with h1 | ⟨_, h1⟩
        · exact cmp m (.inr h1)
        · exact absurd ht (h1 t hd)
    obtain ⟨v', h1, h2⟩ := hI.tmps t i (Nat.le_of_lt hi) (fun m o ho hd => (key m o ho hd).1) v hv
    obtain ⟨v'', _, h3⟩ := hK.tmps t i (Nat.le_of_lt hi) (fun m o ho hd => (key m o ho hd).2) v hv
    exact ⟨v', h1, h2.meet h3⟩
  obtain ⟨hlow, v, hv, hex, hW⟩ := step_core hG hSim hA hC hRel hco hoi hstk rd' n
  have hRs : Rk.size = (S (i + 1)).size := by rw [hkd.1, hS1]
  have hRl : Rk.low = (R i).low := hkd.2.1
  have hRg : ∀ b, Rk.heap.get b = if b ∈ l then some .dead else (S (i + 1)).heap.get b := fun b => by rw [hkd.2.2 b, hS1]
  -- behind the step
  have core : ∀ v' w' ji', VRel ji' v v' → Sim G ji' Rk w' → Ext Rk.low (meet j jc) (kill ⟨(S i).heap, (S i).size, (S i).size⟩ l) w ji' Rk w' → ∃ j', Inv G ops T S R j0 a0 w0 (fun m => p m ∨ m = i) (a.put oi.dst v') w' j' := by
    intro v' w' ji' hv' hs' he
    have n1 : ∀ b, (S i).size ≤ b → b < (S (i + 1)).size → j b = none := by
      intro b h1 h2
      cases hb : j b with
      | none => rfl
      | some x =>
        rcases (hI.dom b x hb).2 with ⟨h3, _⟩ | ⟨m, hm, h3, h4, h5⟩
        · omega
        · have := F.uniq hm hi h4 h5 h1 h2
          rw [this] at h3; exact absurd h3 hpi
    have n2 : ∀ b x, ji' b = some x → ((S i).size ≤ b ∧ b < (S (i + 1)).size) ∨ meet j jc b = some x := by
      intro b x hb
      have hd := (hs'.dom b x hb).1
      rw [hRs] at hd
      by_cases h1 : (S i).size ≤ b
      · exact .inl ⟨h1, hd⟩
      · refine .inr ?_
        cases hm : meet j jc b with
        | none => have := (he.new b x hb hm).1; exact absurd this h1
        | some y => have := he.sub b y hm; rw [hb] at this; cases this; rfl
    obtain ⟨j', hj'⟩ : ∃ j' : Inj, ∀ b, j' b = if (S i).size ≤ b ∧ b < (S (i + 1)).size then ji' b else j b := ⟨_, fun _ => rfl⟩
    have hle : Le j j' := by
      intro b x hb
      rw [hj']
      split
      · rename_i h; rw [n1 b h.1 h.2] at hb; cases hb
      · exact hb
    have hle' : Le ji' j' := by
      intro b x hb
      rw [hj']
      split
      · exact hb
      · rename_i h
        rcases n2 b x hb with h1 | h1
        · exact absurd h1 h
        · exact (meet_inv h1).1
    -- an elder block: within reach, or not
    have old : ∀ b x k, j b = some x → ¬ ((S i).size ≤ b ∧ b < (S (i + 1)).size) → k ≤ ops.size → b < (S k).size → View ops T S R (fun m => p m ∨ m = i) b k →
        (meet j jc b = some x ∧ b ∉ l ∧ (S k).heap.get b = (S (i + 1)).heap.get b) ∨ (¬ (b ∉ l ∧ ∃ y, meet j jc b = some y) ∧ View ops T S R p b k) := by
      intro b x k hb hnr hk hbk hvw
      by_cases hA : b ∉ l ∧ ∃ y, jc b = some y
      · obtain ⟨hbl, y, hy⟩ := hA
        have hbi := hcdom b y hy
        refine .inl ⟨meet_of hb hy, hbl, F.view_eq hk hi hbk (by omega) hvw fun m hm hwr => ?_⟩
        by_cases hmi : m = i
        · subst hmi; exact ⟨fun _ => by omega, fun _ => .inr rfl⟩
        · have := (hV b ⟨y, hy⟩ hbl hbi).1 m hm hwr
          constructor
          · rintro (h | h)
            · have := this.1 h; omega
            · exact absurd h hmi
          · intro h; exact .inl (this.2 (by omega))
      · have hnw : ¬ Wr ops T S R i b := by
          intro hwr
          by_cases hbl : b ∈ l
          · obtain ⟨_, hy, m, hm, hne, hwm, hnc⟩ := (hNK b).1 ((hl b).1 hbl)
            rcases F.cls i b hi hwr with hu | ⟨_, _, _, o, ho, hst⟩
            · exact hnc (uni_spec hu m hm fun e => hne e.symm)
            · rw [hoi] at ho; cases ho
              obtain ⟨lt, h1, h2⟩ := hlt b hbl
              exact h2 (store_touch hst h1)
          · have hnone : ∀ y, jc b ≠ some y := fun y hy => hA ⟨hbl, y, hy⟩
            rcases F.cls i b hi hwr with hu | ⟨_, _, _, o, ho, hst⟩
            · rcases (hI.dom b x hb).2 with ⟨_, h1⟩ | ⟨m, hm, h1, h2, h3⟩
              · exact hnone x (hK.sub b x h1)
              · have hmi : m ≠ i := fun e => hpi (by rw [← e]; exact h1)
                rcases uni_spec hu m hm hmi with h4 | h4
                · obtain ⟨y, hy⟩ := hK.all m hm h4 b h2 h3
                  exact hnone y hy
                · exact hpi (bef_closed h4 hcl h1)
            · rw [hoi] at ho; cases ho
              obtain ⟨y, hy⟩ := store_dom hst (hRel.ops hco)
              obtain ⟨_, z, hz⟩ := meet_inv hy
              exact hnone z hz
        refine .inr ⟨fun ⟨h1, y, h2⟩ => hA ⟨h1, (meet_inv h2).2⟩, fun m hm hwr => ?_⟩
        have hmi : m ≠ i := fun e => hnw (by rw [← e]; exact hwr)
        have := hvw m hm hwr
        constructor
        · intro h; exact this.1 (.inl h)
        · intro h; rcases this.2 h with h | h
          · exact h
          · exact absurd h hmi
    have young : ∀ b k, (S i).size ≤ b → b < (S (i + 1)).size → k ≤ ops.size → b < (S k).size → View ops T S R (fun m => p m ∨ m = i) b k → (S k).heap.get b = (S (i + 1)).heap.get b := by
      intro b k h1 h2 hk hbk hvw
      have hik : i + 1 ≤ k := by
        rcases Nat.lt_or_ge i k with h | h
        · exact h
        · have := F.size_mono h (Nat.le_of_lt hi); omega
      refine F.keep hik hk h2 fun m hm1 hm2 hwr => ?_
      have hm : m < ops.size := by omega
      have hbf := fresh_bef F hi hm h1 h2 (by omega) hdr (by omega) hwr
      rcases (hvw m hm hwr).2 hm2 with h | h
      · exact hpi (bef_closed hbf hcl h)
      · omega
    have hbl' : ∀ b, (S i).size ≤ b → b ∉ l := fun b h1 h2 => by have := hllt b h2; omega
    have unreach : ∀ b x k, j b = some x → k ≤ ops.size → b < (S k).size → View ops T S R p b k → live (S k) b → ¬ (b ∉ l ∧ ∃ y, meet j jc b = some y) →
        ∀ d z, meet j jc d = some z → live (kill ⟨(S i).heap, (S i).size, (S i).size⟩ l) d → z.blk ≠ x.blk := by
      intro b x k hb hk hbk hvw hlb hno d z hd hld e
      obtain ⟨h1, y, h2⟩ := meet_inv hd
      obtain ⟨h3, h4⟩ := hlv d hld
      have := hI.inj d b z x i k h1 hb (Nat.le_of_lt hi) (hcdom d y h2) (hV d ⟨y, h2⟩ h3 (hcdom d y h2)).1 h4 hk hbk hvw hlb e
      subst this
      exact hno ⟨h3, z, hd⟩
    refine ⟨j', ⟨hI.sub.trans hle, ?_, ?_, ?_, ?_, ?_, by rw [put_defers]; exact hI.defs, ?_, Nat.le_trans hI.heap he.heap, ?_, ?_, hI.io.trans he.io⟩⟩
    · intro b x hb
      rw [hj'] at hb
      split at hb
      · rename_i h; exact ⟨(hs'.dom b x hb).2, .inr ⟨i, hi, .inr rfl, h⟩⟩
      · obtain ⟨h1, h2⟩ := hI.dom b x hb
        refine ⟨Nat.lt_of_lt_of_le h1 he.heap, h2.imp id fun ⟨m, hm, h3, h4⟩ => ⟨m, hm, .inl h3, h4⟩⟩
    · intro m hm hpm b h1 h2
      rcases hpm with h | h
      · obtain ⟨x, hx⟩ := hI.all m hm h b h1 h2
        exact ⟨x, hle b x hx⟩
      · subst h
        obtain ⟨x, hx⟩ := he.all b h1 (by rw [hRs]; exact h2)
        exact ⟨x, hle' b x hx⟩
    · intro t k hk hvw u hu
      by_cases hd : oi.dst = some t
      · rcases put_some hv with ⟨h1, _⟩ | ⟨t', h1, h2, h3⟩
        · rw [hd] at h1; cases h1
        · rw [hd] at h1; cases h1
          have hik : i < k := (hvw i oi hoi hd).1 (.inr rfl)
          have hkeep := F.tkeep (t := t) (show i + 1 ≤ k from hik) hk fun m o hm1 hm2 ho hdo => by
            rcases (hvw m o ho hdo).2 hm2 with h | h
            · rcases hdr.apart i m oi o hoi ho (by omega) with h4 | ⟨h4, _⟩
              · exact hpi (bef_closed h4 hcl h)
              · exact (h4 t hd).2 hdo
            · omega
          rw [hkeep] at hu
          have hTi : (T (i + 1)) = ⟨(T i).n, (T i).t.set t v⟩ := h3
          rw [hTi] at hu
          change ((T i).t.set t v).get t = some u at hu
          rw [Tr.get_set, if_pos rfl] at hu
          cases hu
          have hts : t < a.tmps.size := by
            rw [hI.tsz]
            refine Nat.lt_of_lt_of_le ?_ hT0
            rw [← F.tn (Nat.le_of_lt hi)]
            exact h2
          refine ⟨v', ?_, hv'.mono hle'⟩
          rw [hd]
          show (a.tmps.setIfInBounds t v')[t]? = some v'
          simp [hts]
      · obtain ⟨u', h1, h2⟩ := hI.tmps t k hk (fun m o ho hdo => by
          have := hvw m o ho hdo
          have hmi : m ≠ i := fun e => hd (by subst e; rw [hoi] at ho; cases ho; exact hdo)
          constructor
          · intro h; exact this.1 (.inl h)
          · intro h; rcases this.2 h with h | h
            · exact h
            · exact absurd h hmi) u hu
        refine ⟨u', ?_, h2.mono hle⟩
        cases hd2 : oi.dst with
        | none => exact h1
        | some t' =>
          show (a.tmps.setIfInBounds t' v')[t]? = some u'
          rw [Array.getElem?_setIfInBounds_ne (fun e => hd (by rw [hd2, e]))]
          exact h1
    · intro b x k o hb hk hbk hvw hob
      rw [hj'] at hb
      split at hb
      · rename_i h
        have hg := young b k h.1 h.2 hk hbk hvw
        obtain ⟨o', h1, h2⟩ := hs'.objs b x o hb (by rw [hRg, if_neg (hbl' b h.1), ← hg]; exact hob)
        exact ⟨o', h1, h2.mono hle'⟩
      · rename_i h
        rcases old b x k hb h hk hbk hvw with ⟨h1, h2, h3⟩ | ⟨h1, h2⟩
        · obtain ⟨o', h4, h5⟩ := hs'.objs b x o (he.sub b x h1) (by rw [hRg, if_neg h2, ← h3]; exact hob)
          exact ⟨o', h4, h5.mono hle'⟩
        · have hxw := (hI.dom b x hb).1
          by_cases hdd : o = .dead
          · subst hdd
            have := he.heap
            exact ⟨w'.heap[x.blk]'(by omega), by rw [Array.getElem?_eq_getElem], trivial⟩
          · obtain ⟨o', h3, h4⟩ := hI.mem b x k o hb hk hbk h2 hob
            refine ⟨o', ?_, h4.mono hle⟩
            rw [he.fr x.blk hxw fun d z hd _ hld => unreach b x k hb hk hbk h2 ⟨o, hob, hdd⟩ h1 d z hd hld]
            exact h3
    · intro b c x y k k' hb hcb hk hbk hvb lb hk' hck hvc lc e
      -- each of both lies within reach, or not
      have side : ∀ b x k, j' b = some x → k ≤ ops.size → b < (S k).size → View ops T S R (fun m => p m ∨ m = i) b k → live (S k) b →
          (ji' b = some x ∧ live Rk b) ∨ (j b = some x ∧ View ops T S R p b k ∧ ¬ (b ∉ l ∧ ∃ y, meet j jc b = some y)) := by
        intro b x k hb hk hbk hvw ⟨o, hob, hdd⟩
        rw [hj'] at hb
        split at hb
        · rename_i h
          exact .inl ⟨hb, o, by rw [hRg, if_neg (hbl' b h.1), ← young b k h.1 h.2 hk hbk hvw]; exact hob, hdd⟩
        · rename_i h
          rcases old b x k hb h hk hbk hvw with ⟨h1, h2, h3⟩ | ⟨h1, h2⟩
          · exact .inl ⟨he.sub b x h1, o, by rw [hRg, if_neg h2, ← h3]; exact hob, hdd⟩
          · exact .inr ⟨hb, h2, h1⟩
      have cross : ∀ b c x y k', ji' b = some x → live Rk b → j c = some y → k' ≤ ops.size → c < (S k').size → View ops T S R p c k' → live (S k') c → ¬ (c ∉ l ∧ ∃ y, meet j jc c = some y) → x.blk = y.blk → False := by
        intro b c x y k' hb hlb hcb hk' hck hvc lc hno e
        cases hm : meet j jc b with
        | some z =>
          have := he.sub b z hm
          rw [hb] at this; cases this
          have hbs : b < (S i).size := by obtain ⟨_, y1, h1⟩ := meet_inv hm; exact hcdom b y1 h1
          exact unreach c y k' hcb hk' hck hvc lc hno b x hm (he.dead b hbs hlb) e
        | none =>
          obtain ⟨_, h1⟩ := he.new b x hb hm
          rcases h1 with h1 | ⟨d, z, h2, _, h3, h4⟩
          · have := (hI.dom c y hcb).1; omega
          · exact unreach c y k' hcb hk' hck hvc lc hno d z h2 h3 (by rw [h4, e])
      rcases side b x k hb hk hbk hvb lb with ⟨h1, h2⟩ | ⟨h1, h2, h3⟩ <;> rcases side c y k' hcb hk' hck hvc lc with ⟨h4, h5⟩ | ⟨h4, h5, h6⟩
      · exact hs'.inj b c x y h1 h4 h2 h5 e
      · exact (cross b c x y k' h1 h2 h4 hk' hck h5 lc h6 e).elim
      · exact (cross c b y x k h4 h5 h1 hk hbk h2 lb h3 e.symm).elim
      · exact hI.inj b c x y k k' h1 h4 hk hbk h2 lb hk' hck h5 lc e
    · cases hd2 : oi.dst with
      | none => exact hI.tsz
      | some t =>
        show (a.tmps.setIfInBounds t v').size = _
        rw [Array.size_setIfInBounds]; exact hI.tsz
    · intro c hc0 hf
      have h1 := hI.fr c hc0 hf
      rw [← h1]
      refine he.fr c (Nat.lt_of_lt_of_le hc0 hI.heap) fun d z hd hlo hld e => ?_
      obtain ⟨h2, y, h3⟩ := meet_inv hd
      have hlow2 : (S ops.size).low ≤ d := Nat.le_trans (F.low_le hi) (by rw [← hRl]; exact hlo)
      cases hj0 : j0 d with
      | some z' =>
        have := hI.sub d z' hj0
        rw [h2] at this; cases this
        exact hf d z hj0 hlow2 (F.dead_mono (Nat.zero_le i) (Nat.le_of_lt hi) (hs0.dom d z hj0).1 (hlv d hld).2) e
      | none =>
        rcases hI.new d z h2 hj0 with h4 | ⟨c', y', h5, h6, h7, h8⟩
        · omega
        · exact hf c' y' h5 h6 h7 (by rw [h8, e])
    · intro b x hb hn
      rw [hj'] at hb
      split at hb
      · rename_i h
        have hmn : meet j jc b = none := by
          cases hm : meet j jc b with
          | none => rfl
          | some z => have := (meet_inv hm).1; rw [n1 b h.1 h.2] at this; cases this
        obtain ⟨_, h1⟩ := he.new b x hb hmn
        rcases h1 with h1 | ⟨d, z, h2, hlo, h3, h4⟩
        · exact .inl (Nat.le_trans hI.heap h1)
        · obtain ⟨h5, y, h6⟩ := meet_inv h2
          have hlow2 : (S ops.size).low ≤ d := Nat.le_trans (F.low_le hi) (by rw [← hRl]; exact hlo)
          cases hj0 : j0 d with
          | some z' =>
            have := hI.sub d z' hj0
            rw [h5] at this; cases this
            exact .inr ⟨d, z, hj0, hlow2, F.dead_mono (Nat.zero_le i) (Nat.le_of_lt hi) (hs0.dom d z hj0).1 (hlv d h3).2, h4⟩
          | none =>
            rcases hI.new d z h5 hj0 with h7 | ⟨c', y', h8, h9, h10, h11⟩
            · exact .inl (by omega)
            · exact .inr ⟨c', y', h8, h9, h10, h11.trans h4⟩
      · exact hI.new b x hb hn
  refine ⟨?_, fun K Q hKQ => hW K Q fun v' w' ji' h1 h2 h3 => ?_⟩
  · obtain ⟨v', w', ji', h1, h2, h3⟩ := hex
    obtain ⟨j', h4⟩ := core v' w' ji' h1 h2 h3
    exact ⟨v', w', j', h4⟩
  · obtain ⟨j', h4⟩ := core v' w' ji' h1 h2 h3
    exact hKQ v' w' j' h4
end
end Go.Proofs.YtncpeobcgmkkbaaGreat
/- A region that draws its order: the whole. -/
namespace Go.Proofs.YtncpeobcgmkkbaaGreat
section
variable {G : Good} {callF : CallF} {codeF : CodeF} {ops : Array Oper} {T : Nat → Fr} {S R : Nat → St} {D : Nat → Dr} {j0 : Inj} {a0 : Act} {w0 : World}

theorem inv_ex (hG : GoodOK G) (hA : SoundCall G callF) (hC : SoundCode G codeF) (hc : (ops.toList.all fun o => o.op.operands.toList.all constOk) = true) (hw : Way G callF codeF ops T S R D 0 ops.size) (F : Facts ops T S R) (hdr : Drawn ops)
    (hs0 : Sim G j0 (S 0) w0) (hT0 : TRel j0 (T 0) a0.tmps) : ∀ k, k ≤ ops.size → ∀ p : Nat → Prop, Cl ops p → (∀ m, p m → m < k) → ∃ a w j, Inv G ops T S R j0 a0 w0 p a w j := by
  intro k
  induction k with
  | zero => exact fun _ p _ hp => ⟨a0, w0, j0, inv_start (fun m _ h => by have := hp m h; omega) F hs0 hT0 rfl⟩
  | succ k ih =>
    intro hk p hcl hp
    by_cases hpk : p k
    · have hlt : k < ops.size := by omega
      have hcl' : Cl ops (fun m => p m ∧ m ≠ k) := fun i o ho hi e he hb => by
        have := hdr.edge i o e ho he hb
        have := hp i hi.1
        exact ⟨hcl i o ho hi.1 e he hb, by omega⟩
      obtain ⟨a, w, j, hI⟩ := ih (by omega) (fun m => p m ∧ m ≠ k) hcl' (fun m hm => by have := hp m hm.1; have := hm.2; omega)
      obtain ⟨ac, wc, jc, hK⟩ := ih (by omega) (fun m => Bef ops m k) (bef_cl hdr.edge k) (fun m hm => bef_lt hdr.edge hm)
      obtain ⟨⟨v', w', j', h⟩, _⟩ := main_step hG hA hC hc hw F hdr hs0 hT0.1 (Array.getElem?_eq_getElem hlt) (p := fun m => p m ∧ m ≠ k) (fun h => h.2 rfl) (fun m hm => ⟨bef_closed hm hcl hpk, by have := bef_lt hdr.edge hm; omega⟩) hcl' hI hK none 0
      have e : (fun m => (p m ∧ m ≠ k) ∨ m = k) = p := by
        funext m
        apply propext
        constructor
        · rintro (h | h)
          · exact h.1
          · rw [h]; exact hpk
        · intro h
          by_cases hm : m = k
          · exact .inr hm
          · exact .inl ⟨h, hm⟩
      rw [e] at h
      exact ⟨_, w', j', h⟩
    · exact ih (by omega) p hcl fun m hm => by
        have := hp m hm
        by_cases e : m = k
        · rw [e] at hm; exact absurd hm hpk
        · omega
/-- Where all has been carried out. -/
theorem inv_end (F : Facts ops T S R) (hs0 : Sim G j0 (S 0) w0) (hT0 : TRel j0 (T 0) a0.tmps) {p : Nat → Prop} (hp : ∀ m, m < ops.size → p m) {a : Act} {w : World} {j : Inj} (hI : Inv G ops T S R j0 a0 w0 p a w j) :
    a.defers = a0.defers ∧ TRel j (T ops.size) a.tmps ∧ Sim G j (S ops.size) w ∧ Ext (S ops.size).low j0 (S 0) w0 j (S ops.size) w := by
  have hv : ∀ b, View ops T S R p b ops.size := fun b m hm _ => ⟨fun _ => hm, fun _ => hp m hm⟩
  have hsz : ∀ b x, j b = some x → b < (S ops.size).size := by
    intro b x hb
    have h0 := F.size_mono (Nat.zero_le _) (Nat.le_refl ops.size)
    rcases (hI.dom b x hb).2 with ⟨h1, _⟩ | ⟨m, hm, _, _, h1⟩
    · omega
    · have := F.size_mono (show m + 1 ≤ ops.size from hm) (Nat.le_refl _); omega
  refine ⟨hI.defs, ⟨?_, fun t v ht => ?_⟩, ⟨fun b x hb => ⟨hsz b x hb, (hI.dom b x hb).1⟩, fun b x o hb ho => hI.mem b x _ o hb (Nat.le_refl _) (hsz b x hb) (hv b) ho, fun b c x y hb hc lb lc e => ?_, inv_rom F hs0 hI hI.sub (Le.refl j) (fun d hd => ⟨_, Nat.le_refl _, hd⟩)⟩, ?_⟩
  · rw [F.tn (Nat.le_refl _), hI.tsz]; exact hT0.1
  · exact hI.tmps t _ (Nat.le_refl _) (fun m o ho _ => by
      have hm : m < ops.size := (Array.getElem?_eq_some_iff.1 ho).1
      exact ⟨fun _ => hm, fun _ => hp m hm⟩) v ht
  · exact hI.inj b c x y _ _ hb hc (Nat.le_refl _) (hsz b x hb) (hv b) lb (Nat.le_refl _) (hsz c y hc) (hv c) lc e
  · refine ⟨hI.sub, F.size_mono (Nat.zero_le _) (Nat.le_refl _), hI.heap, fun b hb hl => F.dead_mono (Nat.zero_le _) (Nat.le_refl _) hb hl, fun b hb hlo => ?_, hI.fr, fun b x hb hn => ⟨?_, hI.new b x hb hn⟩, ?_, hI.io⟩
    · refine F.keep (Nat.zero_le _) (Nat.le_refl _) hb fun m _ hm hwr => ?_
      have := F.low_le hm
      have := hwr.2.1
      omega
    · rcases (hI.dom b x hb).2 with ⟨_, h1⟩ | ⟨m, hm, _, h1, _⟩
      · rw [h1] at hn; cases hn
      · have := F.size_mono (Nat.zero_le m) (Nat.le_of_lt hm); omega
    · intro b h1 h2
      have : ∀ k, k ≤ ops.size → b < (S k).size → ∃ m, m < k ∧ (S m).size ≤ b ∧ b < (S (m + 1)).size := by
        intro k
        induction k with
        | zero => intro _ h; omega
        | succ k ih =>
          intro hk hb
          by_cases h3 : b < (S k).size
          · obtain ⟨m, h4, h5⟩ := ih (by omega) h3
            exact ⟨m, by omega, h5⟩
          · exact ⟨k, by omega, by omega, hb⟩
      obtain ⟨m, hm, h3, h4⟩ := this ops.size (Nat.le_refl _) h2
      exact hI.all m hm (hp m hm) b h3 h4

theorem mem_ready {listed : Array Bool} {i : Nat} (h : i ∈ Region.ready .any ops listed) : ∃ o, ops[i]? = some o ∧ listed[i]? = some false ∧ ∀ e ∈ o.after.toList, Region.binds .any e = true → listed[e.on]? = some true := by
  unfold Region.ready at h
  rw [List.mem_filter] at h
  obtain ⟨h1, h2⟩ := h
  simp only [Bool.and_eq_true, Bool.not_eq_true'] at h2
  have hi : i < ops.size := by simpa using h1
  refine ⟨ops[i], Array.getElem?_eq_getElem hi, ?_, fun e he hb => ?_⟩
  · have h3 := h2.1
    rw [Array.getD_eq_getD_getElem?] at h3
    cases hl : listed[i]? with
    | none => rw [hl] at h3; cases h3
    | some b => rw [hl] at h3; cases b <;> first | rfl | cases h3
  · have h3 := h2.2
    rw [Array.getElem?_eq_getElem hi] at h3
    simp only [Option.map_some, Option.getD_some] at h3
    have h4 := Array.all_eq_true'.1 h3 e (by simpa using he)
    rw [hb] at h4
    simp only [Bool.not_true, Bool.false_or] at h4
    rw [Array.getD_eq_getD_getElem?] at h4
    cases hl : listed[e.on]? with
    | none => rw [hl] at h4; cases h4
    | some b => rw [hl] at h4; cases b <;> first | rfl | cases h4
theorem ready_of {listed : Array Bool} {i : Nat} {o : Oper} (ho : ops[i]? = some o) (hl : listed[i]? = some false) (h : ∀ e ∈ o.after.toList, Region.binds .any e = true → listed[e.on]? = some true) : i ∈ Region.ready .any ops listed := by
  unfold Region.ready
  have hi : i < ops.size := (Array.getElem?_eq_some_iff.1 ho).1
  rw [List.mem_filter]
  refine ⟨by simpa using hi, ?_⟩
  simp only [Bool.and_eq_true, Bool.not_eq_true', ho, Option.map_some, Option.getD_some, Array.getD_eq_getD_getElem?, hl]
  refine ⟨trivial, Array.all_eq_true'.2 fun e he => ?_⟩
  cases hb : Region.binds .any e with
  | false => rfl
  | true => rw [h e (by simpa using he) hb]; rfl
theorem region_draw (hG : GoodOK G) (hA : SoundCall G callF) (hC : SoundCode G codeF) {id : Nat} {ops : Array Oper} {Tr0 : Fr} {S0 : St} {r : Fr × St} (h0 : evDraw G.E callF codeF ops (befL ops.toList []) ops.toList 0 ⟨S0.size, [], [], []⟩ Tr0 S0 = some r)
    (hc : (ops.toList.all fun o => o.op.operands.toList.all constOk) = true) (hdr : Drawn ops) (rd' : Option Nat) (n : Nat) {j : Inj} {a : Act} {w : World} (hs : Sim G j S0 w) (hT : TRel j Tr0 a.tmps) :
    r.2.low ≤ S0.low ∧ ∀ Q : Exit → Act → World → Prop, (∀ a' w' j', a'.defers = a.defers → TRel j' r.1 a'.tmps → Sim G j' r.2 w' → Ext r.2.low j S0 w j' r.2 w' → Q .normal a' w') → (Code.region id ops true).wpIn (fenceOf rd') n G.P Q a w := by
  obtain ⟨T, S, R, D, e1, e2, e3, hw, hr⟩ := way_of ops.toList 0 _ _ _ _ h0 (fun k => by simp)
  rw [Nat.zero_add, Array.length_toList] at hw hr
  subst e1; subst e2
  have F := facts_of hG hA hC hc hw e3 hs hT
  rw [hr]
  refine ⟨F.low_mono (Nat.zero_le _) (Nat.le_refl _), fun Q hQ => wpIn_region_any hG.mixed ?_⟩
  have any : ∀ (fuel : Nat) (listed : Array Bool) (a' : Act) (w' : World) (j' : Inj), listed.size = ops.size → listed.toList.count false ≤ fuel → Cl ops (fun m => listed[m]? = some true) →
      Inv G ops T S R j a w (fun m => listed[m]? = some true) a' w' j' → wpAnyIn (fenceOf rd') n G.P .any ops Q fuel listed a' w' := by
    intro fuel
    induction fuel with
    | zero =>
      intro listed a' w' j' hsz hcnt hcl hI
      have hall : ∀ m, m < ops.size → listed[m]? = some true := by
        intro m hm
        have hlt : m < listed.size := by omega
        rw [Array.getElem?_eq_getElem hlt]
        cases hb : listed[m] with
        | true => rfl
        | false =>
          have : 0 < listed.toList.count false := List.count_pos_iff.2 (by rw [← hb]; simp)
          omega
      have hnil : Region.ready .any ops listed = [] := by
        cases hrd : Region.ready .any ops listed with
        | nil => rfl
        | cons i l =>
          obtain ⟨o, ho, hl, _⟩ := mem_ready (show i ∈ Region.ready .any ops listed by rw [hrd]; simp)
          rw [hall i (Array.getElem?_eq_some_iff.1 ho).1] at hl; cases hl
      refine ⟨hnil, ?_⟩
      obtain ⟨h1, h2, h3, h4⟩ := inv_end F hs hT hall hI
      exact hQ a' w' j' h1 h2 h3 h4
    | succ fuel ih =>
      intro listed a' w' j' hsz hcnt hcl hI
      refine ⟨fun hnil => ?_, fun i hi => ?_⟩
      · have hall : ∀ m, m < ops.size → listed[m]? = some true := by
          intro m
          induction m using Nat.strongRecOn with
          | _ m ihm =>
            intro hm
            have hlt : m < listed.size := by omega
            have hg := Array.getElem?_eq_getElem hlt
            cases hb : listed[m] with
            | true => rw [hg, hb]
            | false =>
              have : m ∈ Region.ready .any ops listed := ready_of (Array.getElem?_eq_getElem hm) (by rw [hg, hb]) fun e he hbd => by
                have := hdr.edge m _ e (Array.getElem?_eq_getElem hm) he hbd
                exact ihm e.on this (by omega)
              rw [hnil] at this; cases this
        obtain ⟨h1, h2, h3, h4⟩ := inv_end F hs hT hall hI
        exact hQ a' w' j' h1 h2 h3 h4
      · obtain ⟨o, ho, hl, he⟩ := mem_ready hi
        have hilt : i < ops.size := (Array.getElem?_eq_some_iff.1 ho).1
        have hil : i < listed.size := by omega
        obtain ⟨ac, wc, jc, hK⟩ := inv_ex hG hA hC hc hw F hdr hs hT i (Nat.le_of_lt hilt) (fun m => Bef ops m i) (bef_cl hdr.edge i) (fun m hm => bef_lt hdr.edge hm)
        have hpB : ∀ m, Bef ops m i → listed[m]? = some true := by
          have hcl' : Cl ops (fun m => listed[m]? = some true ∨ m = i) := by
            intro k o' ho' hk e hee hb
            rcases hk with hk | hk
            · exact .inl (hcl k o' ho' hk e hee hb)
            · subst hk; rw [ho] at ho'; cases ho'; exact .inl (he e hee hb)
          intro m hm
          rcases bef_closed hm hcl' (.inr rfl) with h | h
          · exact h
          · have := bef_lt hdr.edge hm; omega
        refine (main_step hG hA hC hc hw F hdr hs hT.1 ho (p := fun m => listed[m]? = some true) (fun h => by rw [hl] at h; cases h) hpB hcl hI hK rd' n).2 _ _ fun v' w2 j2 h => ?_
        have e : (fun m => listed[m]? = some true ∨ m = i) = (fun m => (listed.setIfInBounds i true)[m]? = some true) := by
          funext m
          apply propext
          rw [Array.getElem?_setIfInBounds]
          by_cases hm : i = m
          · subst hm; simp [hil]
          · rw [if_neg hm]
            exact ⟨fun h => h.resolve_right (fun e => hm e.symm), .inl⟩
        rw [e] at h
        refine ih _ _ _ _ (by simpa using hsz) ?_ ?_ h
        · have hgl : listed.toList[i]'(by simpa using hil) = false := by
            have := hl
            rw [Array.getElem?_eq_getElem hil] at this
            simpa using this
          rw [Array.toList_setIfInBounds, List.count_set (by simpa using hil), hgl]
          show List.count false listed.toList - (if (false == false) = true then 1 else 0) + (if (true == false) = true then 1 else 0) ≤ fuel
          have e1 : ((false == false) = true) = True := by simp
          have e2 : ((true == false) = true) = False := by simp
          simp only [e1, e2, if_true, if_false]
          omega
        · rw [← e]
          intro k o' ho' hk e2 hee hb
          rcases hk with hk | hk
          · exact .inl (hcl k o' ho' hk e2 hee hb)
          · subst hk; rw [ho] at ho'; cases ho'; exact .inl (he e2 hee hb)
  have hrep : ∀ m, (Array.replicate ops.size false)[m]? ≠ some true := fun m h => by
    rw [Array.getElem?_replicate] at h
    split at h <;> cases h
  refine any ops.size (Array.replicate ops.size false) a _ j (by simp) ?_ (fun i o ho hi => absurd hi (hrep i)) (inv_start (fun m _ => hrep m) F hs hT rfl)
  simp
end
end Go.Proofs.YtncpeobcgmkkbaaGreat
/- The evaluator is sound: code, calls, the run. -/
namespace Go.Proofs.YtncpeobcgmkkbaaGreat
section
variable {G : Good} {callF : CallF} {codeF : CodeF}

def CodeW (F : Fence) (n : Nat) (P : Program) (m : Nat) (c : Code) (Q : Exit → Act → World → Prop) (a : Act) (w : World) : Prop := match c with
  | .loop b => b.roundsIn F n P Q m a w
  | c => c.wpIn F n P Q a w
theorem CodeW.wp {F : Fence} {n : Nat} {P : Program} {m : Nat} {c : Code} {Q : Exit → Act → World → Prop} {a : Act} {w : World} (h : CodeW F n P m c Q a w) : c.wpIn F n P Q a w := by
  cases c with
  | loop b => exact wpIn_loop_rounds m h
  | _ => exact h
/-- As SoundCode, with a bound for a loop's rounds. -/
def SoundCodeR (G : Good) (codeF : CodeF) : Prop := ∀ c rd T S r, codeF c rd T S = some r → chkC c = true → ∃ m,
  ∀ n base j a w rd', RdRel j rd rd' → Sim G j S w → TRel j T a.tmps → base ≤ w.heap.size → Defs base j w a.defers → r.S.low ≤ S.low ∧ CodeW (fenceOf rd') n G.P m c (CPost G base j S w r) a w
theorem SoundCodeR.sound (h : SoundCodeR G codeF) : SoundCode G codeF := fun c rd T S r hr hc n base j a w rd' h1 h2 h3 h4 h5 =>
  let ⟨_, hm⟩ := h c rd T S r hr hc
  let ⟨h6, h7⟩ := hm n base j a w rd' h1 h2 h3 h4 h5
  ⟨h6, h7.wp⟩
theorem exOf_inj_normal {e : LExit} (h : exOf e = .normal) : e = .normal := by cases e <;> first | rfl | cases h

/-- What a run of a piece leaves, seen from what stood before another one. -/
theorem CPost.after {base : Nat} {j j1 : Inj} {S : St} {w w1 : World} {r1 r : Res} (hd : ∀ b x, j b = some x → b < S.size) (h1 : Ext r1.S.low j S w j1 r1.S w1) (hl : r.S.low ≤ r1.S.low) {e : Exit} {a' : Act} {w' : World} (h : CPost G base j1 r1.S w1 r e a' w') : CPost G base j S w r e a' w' := by
  obtain ⟨he, j2, h2, h3, h4, h5⟩ := h
  exact ⟨he, j2, h2, h1.trans hd h3 hl, h4, h5⟩
theorem CPost.same {base : Nat} {j : Inj} {S : St} {w : World} {r : Res} {e : LExit} {T : Fr} (hr : r = ⟨e, T, S⟩) {a : Act} (hs : Sim G j S w) (hT : TRel j T a.tmps) (hD : Defs base j w a.defers) : CPost G base j S w r (exOf e) a w := by
  subst hr
  exact ⟨rfl, j, hs, Ext.refl _ _ _ _, hT, hD⟩
theorem defs_tail {base : Nat} {j : Inj} {w : World} {ds : List Deferred} (h : Defs base j w ds) : Defs base j w ds := h

theorem region_code (hG : GoodOK G) (hA : SoundCall G callF) (hC : SoundCode G codeF) {id : Nat} {ops : Array Oper} {draw : Bool} {T : Fr} {S : St} {r : Res} (h0 : evRegion G.E callF codeF ops draw T S = some r) (hc : chkC (.region id ops draw) = true)
    (n base : Nat) {j : Inj} {a : Act} {w : World} (rd' : Option Nat) (hs : Sim G j S w) (hT : TRel j T a.tmps) (hD : Defs base j w a.defers) : r.S.low ≤ S.low ∧ (Code.region id ops draw).wpIn (fenceOf rd') n G.P (CPost G base j S w r) a w := by
  obtain ⟨q, hq, h1⟩ := ob_some h0
  have hr : r = ⟨.normal, q.1, q.2⟩ := by cases h1; rfl
  simp only [chkC, Bool.and_eq_true, Bool.or_eq_true, Bool.not_eq_true'] at hc
  subst hr
  cases draw with
  | false =>
    obtain ⟨h2, h3⟩ := region_seq hG hA hC (id := id) hq hc.1 rd' n hs hT
    exact ⟨h2, h3 _ fun a' w' j' h4 h5 h6 h7 => ⟨rfl, j', h6, h7, h5, by rw [h4]; exact hD.ext h7⟩⟩
  | true =>
    obtain ⟨h2, h3⟩ := region_draw hG hA hC (id := id) hq hc.1 (drawn_of_chk (hc.2.resolve_left (by simp))) rd' n hs hT
    exact ⟨h2, h3 _ fun a' w' j' h4 h5 h6 h7 => ⟨rfl, j', h6, h7, h5, by rw [h4]; exact hD.ext h7⟩⟩

theorem range_code (hA : SoundCall G callF) {f : Operand} {ps : Array Tmp} {asg body : Code} {rd : Option Nat} {T : Fr} {S : St} {r : Res} (h0 : evRange callF f ps.toList asg body rd T S = some r) (hc : chkC (.rangeFunc f ps asg body) = true)
    (n base : Nat) {j : Inj} {a : Act} {w : World} {rd' : Option Nat} (hrd : RdRel j rd rd') (hs : Sim G j S w) (hT : TRel j T a.tmps) (hb : base ≤ w.heap.size) (hD : Defs base j w a.defers) :
    r.S.low ≤ S.low ∧ (Code.rangeFunc f ps asg body).wpIn (fenceOf rd') n G.P (CPost G base j S w r) a w := by
  obtain ⟨hround, h1⟩ := gd_some h0
  obtain ⟨g, hg, h2⟩ := ob_some h1
  obtain ⟨q, hq, h3⟩ := ob_some h2
  obtain ⟨u, hu, h4⟩ := ob_some h3
  obtain ⟨hbusy, h5⟩ := gd_some h4
  obtain ⟨ex, hex, h6⟩ := ob_some h5
  have hr : r = ⟨ex, T, q.2.put S.size (.loop .exhausted u.2.1 u.2.2.1 u.2.2.2.1 u.2.2.2.2.1 u.2.2.2.2.2)⟩ := by cases h6; rfl
  clear h0 h1 h2 h3 h4 h5 h6
  subst hr
  obtain ⟨fv, hfv, hg'⟩ := ob_some hg
  simp only [chkC, Bool.and_eq_true] at hc
  have hfr := hT.ev hc.1 hfv
  obtain ⟨⟨fnr, hf1, hf2, hf3⟩, hcall⟩ := hA _ _ _ _ _ hq
  -- the loop's record, laid into whatever memory
  have lay : ∀ (fn : FuncId) (wa : World) (df : Nat), Sim G j S wa → ∃ x, x.blk = wa.heap.size ∧ Sim G (j.ext S.size x) (S.new (.loop .ready none T ps.toList asg body)) (wa.alloc (.loop { state := .ready, pending := none, fn := fn, tmps := a.tmps, params := ps, assign := asg, body := body, defers := df })) ∧
      ∀ lo, Ext lo j S wa (j.ext S.size x) (S.new (.loop .ready none T ps.toList asg body)) (wa.alloc (.loop { state := .ready, pending := none, fn := fn, tmps := a.tmps, params := ps, assign := asg, body := body, defers := df })) := by
    intro fn wa df hsa
    obtain ⟨h1, h2⟩ := hsa.new ⟨wa.heap.size, 0, 0, 0⟩ (o := .loop .ready none T ps.toList asg body) (o' := .loop { state := .ready, pending := none, fn := fn, tmps := a.tmps, params := ps, assign := asg, body := body, defers := df }) rfl
      ⟨_, rfl, rfl, rfl, rfl, rfl, rfl, hT.mono (ext_le (hsa.fresh (Nat.le_refl _))), hc.2.1, hc.2.2⟩
    exact ⟨_, rfl, h1, h2⟩
  -- the call, and what is asked behind it
  have go : ∀ (w1 : World) (x : JB) (mark : List Deferred), Sim G (j.ext S.size x) (S.new (.loop .ready none T ps.toList asg body)) w1 → (∀ lo, Ext lo j S w (j.ext S.size x) (S.new (.loop .ready none T ps.toList asg body)) w1) →
      Defs base (j.ext S.size x) w1 (mark ++ a.defers) →
      (q.2.put S.size (.loop .exhausted u.2.1 u.2.2.1 u.2.2.2.1 u.2.2.2.2.1 u.2.2.2.2.2)).low ≤ S.low ∧
      ∃ d f' args, (resolve a.eval (rangeCall f x.blk) 0).run G.P w1 = .ok d w1 ∧ (invoke d.target d.args).run G.P w1 = .ok (.enter f' args) w1 ∧
        CallsIn (fenceOf rd') (n - 1) G.P f' args w1 (rangePost (fenceOf rd') n G.P x.blk (CPost G base j S w ⟨ex, T, q.2.put S.size (.loop .exhausted u.2.1 u.2.2.1 u.2.2.2.1 u.2.2.2.2.1 u.2.2.2.2.2)⟩) { a with defers := mark ++ a.defers }) := by
    intro w1 x mark hs1 he1 hD1
    have hx : j.ext S.size x S.size = some x := ext_self _ _ _
    have hj := (he1 0).sub
    cases hv : fv <;> rw [hv] at hg' hfr <;> first | (cases hg'; done) | skip
    rename_i fn first cap
    cases fn <;> first | (cases hg'; done) | skip
    rename_i gf
    cases hg'
    generalize hy : a.eval f = y at hfr
    cases hfr with
    | func hfn h1 h2 =>
      rename_i fn' first' cap'
      cases hfn
      have hargs : VsRel (j.ext S.size x) (first.toList ++ ([.func (.yield S.size) #[] #[]] ++ cap.toList)) ((first' ++ #[Value.func (.yield x.blk) #[] #[]]) ++ cap').toList := by
        simp only [Array.toList_append, List.append_assoc]
        exact (h1.mono hj).append (VsRel.append (.cons (.func (.yield hx) .nil .nil) .nil) (h2.mono hj))
      obtain ⟨hlow, hcl⟩ := hcall (j.ext S.size x) ((first' ++ #[Value.func (.yield x.blk) #[] #[]]) ++ cap') w1 hs1 hargs
      have hl2 : (q.2.put S.size (.loop .exhausted u.2.1 u.2.2.1 u.2.2.2.1 u.2.2.2.2.1 u.2.2.2.2.2)).low ≤ q.2.low := Nat.min_le_right _ _
      refine ⟨Nat.le_trans hl2 hlow, { target := .fn (.func gf) cap', args := first' ++ #[Value.func (.yield x.blk) #[] #[]] }, gf, (first' ++ #[Value.func (.yield x.blk) #[] #[]]) ++ cap', ?_, run_callFunc hf1 hf2 hf3 _ _, fenceOf_calls rd' (Calls.mono hcl ?_)⟩
      · simp only [resolve, rangeCall, hy, Deferred.ofValue]
        have em : Array.map a.eval #[Operand.const (Value.func (Fn.yield x.blk) #[] #[])] = #[Value.func (Fn.yield x.blk) #[] #[]] := by simp [Act.eval]
        rw [em]
        rfl
      · rintro e w2 ⟨v', j2, rfl, hv2, hs2, he2⟩
        have hx2 := he2.sub _ _ hx
        obtain ⟨L, hL, hst, hpd, hps, hasg, hbody, hTL, hc1, hc2, hget⟩ := loop_obj hs2 hx2 hu
        obtain ⟨hs3, he3⟩ := put_loop hs2 hx2 hu hL .exhausted u.2.1
        have he3' := he3 _ (Nat.min_le_left S.size q.2.low)
        have hLp : ({ L with state := .exhausted, pending := u.2.1 } : Loop) = { L with state := .exhausted } := by rw [← hpd]
        rw [hLp] at hs3 he3'
        have hend : (Instr.endLoop x.blk).run G.P w2 = .ok u.2.1 (w2.putObj x.blk (.loop { L with state := .exhausted })) := by
          have hnb : (L.state == .busy) = false := by
            rw [hst]
            cases hq1 : u.1 <;> rw [hq1] at hbusy <;> first | rfl | cases hbusy
          simp only [Instr.endLoop, Sem.run_bind, run_getLoop hL, Result.andThen_ok, hnb, Bool.false_eq_true, if_false, run_setLoop _ hL, Sem.run_pure, hpd]
        have hall : Ext (q.2.put S.size (.loop .exhausted u.2.1 u.2.2.1 u.2.2.2.1 u.2.2.2.2.1 u.2.2.2.2.2)).low j S w j2 (q.2.put S.size (.loop .exhausted u.2.1 u.2.2.1 u.2.2.2.1 u.2.2.2.2.1 u.2.2.2.2.2)) (w2.putObj x.blk (.loop { L with state := .exhausted })) :=
          ((he1 q.2.low).trans (fun b y hb => (hs.dom b y hb).1) he2 (Nat.le_refl _)).trans (fun b y hb => (hs.dom b y hb).1) he3' hl2
        have hT2 : TRel j2 T a.tmps := hT.mono (hj.trans he2.sub)
        have hD2 := (hD1.ext he2).ext he3'
        have post : CPost G base j S w ⟨ex, T, q.2.put S.size (.loop .exhausted u.2.1 u.2.2.1 u.2.2.2.1 u.2.2.2.2.1 u.2.2.2.2.2)⟩ (exOf ex) { a with defers := mark ++ a.defers } (w2.putObj x.blk (.loop { L with state := .exhausted })) := ⟨rfl, j2, hs3, hall, hT2, hD2⟩
        refine ⟨u.2.1, _, hend, ?_⟩
        cases hp : u.2.1 with
        | none =>
          rw [hp] at hex
          cases hex
          rw [hp] at post
          exact post
        | some c =>
          rw [hp] at hex post
          cases c <;> first | (cases hex; done) | skip
          · cases hex; exact wpIn_exit post
          · cases hex; exact wpIn_ret post
  cases rd with
  | none =>
    cases rd' with
    | some l => exact hrd.elim
    | none =>
      have hwd : (w.alloc (.deferred (some []))).heap.size = w.heap.size + 1 := Array.size_push _
      have hsd : Sim G j S (w.alloc (.deferred (some []))) := by
        refine ⟨fun b x hb => ⟨(hs.dom b x hb).1, by rw [hwd]; have := (hs.dom b x hb).2; omega⟩, fun b x o hb ho => ?_, hs.inj, hs.rom.world (fun b x hb => by
          have := (hs.dom b x hb).2
          show (w.heap.push _)[x.blk]? = _
          rw [Array.getElem?_push, if_neg (by omega)]) (fun _ h => h)⟩
        obtain ⟨o', h1, h2⟩ := hs.objs b x o hb ho
        have := (hs.dom b x hb).2
        refine ⟨o', ?_, h2⟩
        show (w.heap.push _)[x.blk]? = _
        rw [Array.getElem?_push, if_neg (by omega)]; exact h1
      have hed : ∀ lo, Ext lo j S w j S (w.alloc (.deferred (some []))) := fun lo => ⟨Le.refl _, Nat.le_refl _, by rw [hwd]; omega, fun _ _ h => h, fun _ _ _ => rfl, fun c hc _ => by
        show (w.heap.push _)[c]? = _
        rw [Array.getElem?_push, if_neg (by omega)], (fun b x h h' => by rw [h] at h'; cases h'), (fun b h1 h2 => by omega), ⟨rfl, rfl, rfl⟩⟩
      have hone : ∀ fn, ∃ x, x.blk = w.heap.size + 1 ∧ Sim G (j.ext S.size x) (S.new (.loop .ready none T ps.toList asg body)) ((w.alloc (.deferred (some []))).alloc (.loop { state := .ready, pending := none, fn := fn, tmps := a.tmps, params := ps, assign := asg, body := body, defers := w.heap.size })) ∧
          (∀ lo, Ext lo j S w (j.ext S.size x) (S.new (.loop .ready none T ps.toList asg body)) ((w.alloc (.deferred (some []))).alloc (.loop { state := .ready, pending := none, fn := fn, tmps := a.tmps, params := ps, assign := asg, body := body, defers := w.heap.size }))) ∧
          Defs base (j.ext S.size x) ((w.alloc (.deferred (some []))).alloc (.loop { state := .ready, pending := none, fn := fn, tmps := a.tmps, params := ps, assign := asg, body := body, defers := w.heap.size })) ([{ target := .collected w.heap.size, args := #[] }] ++ a.defers) := by
        intro fn
        obtain ⟨x, h1, h2, h3⟩ := lay fn (w.alloc (.deferred (some []))) w.heap.size hsd
        have h4 : ∀ lo, Ext lo j S w (j.ext S.size x) (S.new (.loop .ready none T ps.toList asg body)) ((w.alloc (.deferred (some []))).alloc (.loop { state := .ready, pending := none, fn := fn, tmps := a.tmps, params := ps, assign := asg, body := body, defers := w.heap.size })) :=
          fun lo => (hed lo).trans (fun b y hb => (hs.dom b y hb).1) (h3 lo) (Nat.le_refl _)
        refine ⟨x, by rw [h1, hwd], h2, h4, ?_, hD.ext (h4 0)⟩
        refine ⟨w.heap.size, rfl, hb, ?_, ?_, ?_⟩
        · show ((w.heap.push _).push _)[w.heap.size]? = _
          rw [Array.getElem?_push, if_neg (by simp), Array.getElem?_push, if_pos rfl]
        · intro b y hby e
          simp only [Inj.ext] at hby
          split at hby
          · cases hby; rw [h1, hwd] at e; omega
          · have := (hs.dom b y hby).2; omega
        · intro d' hd' e
          have : ∀ ds, Defs base j w ds → ∀ d ∈ ds, ∃ r, d = { target := .collected r, args := #[] } ∧ r < w.heap.size := by
            intro ds
            induction ds with
            | nil => intro _ d hd; cases hd
            | cons d0 ds ih =>
              intro h d hd
              rcases List.mem_cons.1 hd with rfl | hd
              · obtain ⟨r, h1, _, h2, _⟩ := h.1
                exact ⟨r, h1, (Array.getElem?_eq_some_iff.1 h2).1⟩
              · exact ih h.2 d hd
          obtain ⟨r, h5, h6⟩ := this _ hD d' hd'
          rw [e] at h5
          injection h5 with h5
          injection h5 with h5
          omega
      refine ⟨?_, wpIn_rangeFunc fun fn _ => ?_⟩
      · obtain ⟨x, _, h1, h2, h3⟩ := hone 0
        exact (go _ x _ h1 h2 h3).1
      · obtain ⟨x, hx, h1, h2, h3⟩ := hone fn
        obtain ⟨_, d, f', args, h4, h5, h6⟩ := go _ x _ h1 h2 h3
        rw [hx] at h4 h6
        refine ⟨w.heap.size + 1, [{ target := .collected w.heap.size, args := #[] }], _, d, _, f', args, _, ?_, h4, fun f' _ => fenceOf_fn _ f', h5, (fun h => by rw [fenceOf_depth] at h; cases h), h6⟩
        rw [fenceOf_round]
        simp only [Instr.enterLoop, Sem.run_bind, run_newObj, Result.andThen_ok, Sem.run_pure, World.alloc_eq, hwd]
  | some lb =>
    cases rd' with
    | none => exact hrd.elim
    | some l =>
      obtain ⟨y, hy, hyl⟩ := hrd
      have hlo : ∃ L, w.heap[l]? = some (.loop L) := by
        change (Option.rec false (fun _ => true) (ob (S.heap.get lb) loopO) : Bool) = true at hround
        cases hq0 : ob (S.heap.get lb) loopO with
        | none => rw [hq0] at hround; cases hround
        | some q0 =>
          obtain ⟨L, hL, _⟩ := loop_obj hs hy hq0
          exact ⟨L, by rw [← hyl]; exact hL⟩
      obtain ⟨L0, hL0⟩ := hlo
      refine ⟨?_, wpIn_rangeFunc fun fn _ => ?_⟩
      · obtain ⟨x, _, h1, h2⟩ := lay 0 w L0.defers hs
        exact (go _ x [] h1 h2 (hD.ext (h2 0))).1
      · obtain ⟨x, hx, h1, h2⟩ := lay fn w L0.defers hs
        obtain ⟨_, d, f', args, h4, h5, h6⟩ := go _ x [] h1 h2 (hD.ext (h2 0))
        rw [hx] at h4 h6
        refine ⟨w.heap.size, [], _, d, _, f', args, _, ?_, h4, fun f' _ => fenceOf_fn _ f', h5, (fun h => by rw [fenceOf_depth] at h; cases h), h6⟩
        rw [fenceOf_round]
        simp only [Instr.enterLoop, Sem.run_bind, run_getLoop hL0, run_newObj, Result.andThen_ok, Sem.run_pure, World.alloc_eq]

theorem cond_operand {T : Fr} {c : Operand} {t : Bool} {j : Inj} {a : Act} (hT : TRel j T a.tmps) (hc : constOk c = true) (h : ob (T.ev c) boolOf = some t) : a.eval c = .bool t := by
  obtain ⟨v, hv, hb⟩ := ob_some h
  have := boolOf_some hb; subst this
  exact (hT.ev hc hv).bool_inv
theorem code_sound (hG : GoodOK G) (hA : SoundCall G callF) (hC : SoundCodeR G codeF) : SoundCodeR G (evCode G.E callF codeF) := by
  intro c
  induction c with
  | skip =>
    intro rd T S r h0 _
    cases h0
    exact ⟨0, fun n base j a w rd' _ hs hT _ hD => ⟨Nat.le_refl _, wpIn_skip (CPost.same rfl hs hT hD)⟩⟩
  | label l =>
    intro rd T S r h0 _
    cases h0
    exact ⟨0, fun n base j a w rd' _ hs hT _ hD => ⟨Nat.le_refl _, wpIn_label (CPost.same rfl hs hT hD)⟩⟩
  | exit id =>
    intro rd T S r h0 _
    cases h0
    exact ⟨0, fun n base j a w rd' _ hs hT _ hD => ⟨Nat.le_refl _, wpIn_exit (CPost.same (e := .exit id) rfl hs hT hD)⟩⟩
  | ret =>
    intro rd T S r h0 _
    cases h0
    exact ⟨0, fun n base j a w rd' _ hs hT _ hD => ⟨Nat.le_refl _, wpIn_ret (CPost.same (e := .ret) rfl hs hT hD)⟩⟩
  | scope b _ => intro rd T S r h0 _; cases h0
  | goto l => intro rd T S r h0 _; cases h0
  | refuse why => intro rd T S r h0 _; cases h0
  | region id ops draw =>
    intro rd T S r h0 hc
    exact ⟨0, fun n base j a w rd' _ hs hT _ hD => region_code hG hA hC.sound h0 hc n base rd' hs hT hD⟩
  | rangeFunc f ps asg body _ _ =>
    intro rd T S r h0 hc
    exact ⟨0, fun n base j a w rd' hrd hs hT hb hD => range_code hA h0 hc n base hrd hs hT hb hD⟩
  | cond c x y ihx ihy =>
    intro rd T S r h0 hc
    obtain ⟨t, ht, h1⟩ := ob_some h0
    simp only [chkC, Bool.and_eq_true] at hc
    cases t with
    | true =>
      obtain ⟨m, hm⟩ := ihx rd T S r h1 hc.2.1
      refine ⟨0, fun n base j a w rd' hrd hs hT hb hD => ?_⟩
      obtain ⟨h2, h3⟩ := hm n base j a w rd' hrd hs hT hb hD
      exact ⟨h2, wpIn_cond_true (cond_operand hT hc.1 ht) h3.wp⟩
    | false =>
      obtain ⟨m, hm⟩ := ihy rd T S r h1 hc.2.2
      refine ⟨0, fun n base j a w rd' hrd hs hT hb hD => ?_⟩
      obtain ⟨h2, h3⟩ := hm n base j a w rd' hrd hs hT hb hD
      exact ⟨h2, wpIn_cond_false (cond_operand hT hc.1 ht) h3.wp⟩
  | seq x y ihx ihy =>
    intro rd T S r h0 hc
    obtain ⟨q, hq, h1⟩ := ob_some h0
    simp only [chkC, Bool.and_eq_true] at hc
    obtain ⟨m, hm⟩ := ihx rd T S q hq hc.1
    cases hex : q.ex with
    | normal =>
      unfold onNormal at h1
      rw [hex] at h1
      obtain ⟨m2, hm2⟩ := ihy rd q.T q.S r h1 hc.2
      refine ⟨0, fun n base j a w rd' hrd hs hT hb hD => ?_⟩
      obtain ⟨h2, h3⟩ := hm n base j a w rd' hrd hs hT hb hD
      have hdom := fun b x (hb : j b = some x) => (hs.dom b x hb).1
      have hlow : r.S.low ≤ q.S.low := by
        obtain ⟨e, a1, w1, _, j1, h4, h5, h6, h7⟩ := wpIn_some h3.wp
        exact (hm2 n base j1 a1 w1 rd' (hrd.mono h5.sub) h4 h6 (Nat.le_trans hb h5.heap) h7).1
      refine ⟨Nat.le_trans hlow h2, wpIn_seq (wpIn_mono h3.wp ?_)⟩
      rintro e a1 w1 ⟨rfl, j1, h4, h5, h6, h7⟩
      rw [hex]
      refine wpIn_mono (hm2 n base j1 a1 w1 rd' (hrd.mono h5.sub) h4 h6 (Nat.le_trans hb h5.heap) h7).2.wp ?_
      exact fun e a2 w2 h => h.after hdom h5 hlow
    | exit id =>
      unfold onNormal at h1
      rw [hex] at h1
      cases h1
      refine ⟨0, fun n base j a w rd' hrd hs hT hb hD => ?_⟩
      obtain ⟨h2, h3⟩ := hm n base j a w rd' hrd hs hT hb hD
      refine ⟨h2, wpIn_seq (wpIn_mono h3.wp ?_)⟩
      rintro e a1 w1 ⟨he, h4⟩
      have he' : e = .exit id := by rw [he, hex]; rfl
      subst he'
      exact ⟨he, h4⟩
    | ret =>
      unfold onNormal at h1
      rw [hex] at h1
      cases h1
      refine ⟨0, fun n base j a w rd' hrd hs hT hb hD => ?_⟩
      obtain ⟨h2, h3⟩ := hm n base j a w rd' hrd hs hT hb hD
      refine ⟨h2, wpIn_seq (wpIn_mono h3.wp ?_)⟩
      rintro e a1 w1 ⟨he, h4⟩
      have he' : e = .ret := by rw [he, hex]; rfl
      subst he'
      exact ⟨he, h4⟩
  | block id b ih =>
    intro rd T S r h0 hc
    obtain ⟨q, hq, h1⟩ := ob_some h0
    obtain ⟨m, hm⟩ := ih rd T S q hq hc
    refine ⟨0, fun n base j a w rd' hrd hs hT hb hD => ?_⟩
    obtain ⟨h2, h3⟩ := hm n base j a w rd' hrd hs hT hb hD
    unfold onExit at h1
    cases hex : q.ex with
    | normal =>
      rw [hex] at h1; cases h1
      refine ⟨h2, wpIn_block (wpIn_mono h3.wp ?_)⟩
      rintro e a1 w1 ⟨he, h4⟩
      have he' : e = .normal := by rw [he, hex]; rfl
      subst he'
      exact ⟨he, h4⟩
    | ret =>
      rw [hex] at h1; cases h1
      refine ⟨h2, wpIn_block (wpIn_mono h3.wp ?_)⟩
      rintro e a1 w1 ⟨he, h4⟩
      have he' : e = .ret := by rw [he, hex]; rfl
      subst he'
      exact ⟨he, h4⟩
    | exit k =>
      rw [hex] at h1
      have hr : r = ⟨bf (Nat.beq k id) .normal (.exit k), q.T, q.S⟩ := by cases h1; rfl
      subst hr
      refine ⟨h2, wpIn_block (wpIn_mono h3.wp ?_)⟩
      rintro e a1 w1 ⟨he, h4⟩
      have he' : e = .exit k := by rw [he, hex]; rfl
      subst he'
      show if k = id then _ else _
      by_cases hk : k = id
      · rw [if_pos hk]
        have : Nat.beq k id = true := by rw [hk]; exact Nat.beq_refl id
        rw [this]
        exact ⟨rfl, h4⟩
      · rw [if_neg hk, beq_ne hk]
        exact ⟨rfl, h4⟩
  | loop b ih =>
    intro rd T S r h0 hc
    obtain ⟨q, hq, h1⟩ := ob_some h0
    obtain ⟨m, hm⟩ := ih rd T S q hq hc
    cases hex : q.ex with
    | normal =>
      unfold onNormal at h1
      rw [hex] at h1
      obtain ⟨m2, hm2⟩ := hC (.loop b) rd q.T q.S r h1 hc
      refine ⟨m2 + 1, fun n base j a w rd' hrd hs hT hb hD => ?_⟩
      obtain ⟨h2, h3⟩ := hm n base j a w rd' hrd hs hT hb hD
      have hdom := fun b x (hb : j b = some x) => (hs.dom b x hb).1
      have hlow : r.S.low ≤ q.S.low := by
        obtain ⟨e, a1, w1, _, j1, h4, h5, h6, h7⟩ := wpIn_some h3.wp
        exact (hm2 n base j1 a1 w1 rd' (hrd.mono h5.sub) h4 h6 (Nat.le_trans hb h5.heap) h7).1
      refine ⟨Nat.le_trans hlow h2, wpIn_mono h3.wp ?_⟩
      rintro e a1 w1 ⟨rfl, j1, h4, h5, h6, h7⟩
      rw [hex]
      have h8 := (hm2 n base j1 a1 w1 rd' (hrd.mono h5.sub) h4 h6 (Nat.le_trans hb h5.heap) h7).2
      have hmono : ∀ (m : Nat) (a2 : Act) (w2 : World), b.roundsIn (fenceOf rd') n G.P (CPost G base j1 q.S w1 r) m a2 w2 → b.roundsIn (fenceOf rd') n G.P (CPost G base j S w r) m a2 w2 := by
        intro m
        induction m with
        | zero => exact fun _ _ h => h
        | succ m ihm =>
          intro a2 w2 h
          rw [roundsIn_succ] at h ⊢
          refine wpIn_mono h fun e a3 w3 h => ?_
          cases e with
          | normal => exact ihm a3 w3 h
          | exit k => exact CPost.after hdom h5 hlow h
          | goto k => exact CPost.after hdom h5 hlow h
          | ret => exact CPost.after hdom h5 hlow h
          | panic k => exact CPost.after hdom h5 hlow h
          | outgrown => exact CPost.after hdom h5 hlow h
      exact hmono m2 a1 w1 h8
    | exit id =>
      unfold onNormal at h1
      rw [hex] at h1
      cases h1
      refine ⟨1, fun n base j a w rd' hrd hs hT hb hD => ?_⟩
      obtain ⟨h2, h3⟩ := hm n base j a w rd' hrd hs hT hb hD
      refine ⟨h2, wpIn_mono h3.wp ?_⟩
      rintro e a1 w1 ⟨he, h4⟩
      have he' : e = .exit id := by rw [he, hex]; rfl
      subst he'
      exact ⟨he, h4⟩
    | ret =>
      unfold onNormal at h1
      rw [hex] at h1
      cases h1
      refine ⟨1, fun n base j a w rd' hrd hs hT hb hD => ?_⟩
      obtain ⟨h2, h3⟩ := hm n base j a w rd' hrd hs hT hb hD
      refine ⟨h2, wpIn_mono h3.wp ?_⟩
      rintro e a1 w1 ⟨he, h4⟩
      have he' : e = .ret := by rw [he, hex]; rfl
      subst he'
      exact ⟨he, h4⟩

theorem set_all {j : Inj} : ∀ (vs vs' : List Value) (i : Nat) (t : Tr Value) (pre : List Value), VsRel j vs vs' → pre.length = i → (∀ k v, t.get k = some v → ∃ v', pre[k]? = some v' ∧ VRel j v v') →
    ∀ k v, (setAll vs i t).get k = some v → ∃ v', (pre ++ vs')[k]? = some v' ∧ VRel j v v'
  | [], vs', i, t, pre, h, _, ht, k, v, hk => by
    cases h
    obtain ⟨v', h1, h2⟩ := ht k v hk
    exact ⟨v', by simpa using h1, h2⟩
  | u :: us, vs', i, t, pre, h, hp, ht, k, v, hk => by
    cases h with
    | cons hu hus =>
      rename_i u' us'
      have := set_all us us' (i + 1) (t.set i u) (pre ++ [u']) hus (by simp [hp]) (fun k v hk => by
        rw [Tr.get_set] at hk
        split at hk
        · rename_i e; cases hk; subst e; exact ⟨u', by simp [← hp], hu⟩
        · obtain ⟨v', h1, h2⟩ := ht k v hk
          have := (List.getElem?_eq_some_iff.1 h1).1
          exact ⟨v', by rw [List.getElem?_append_left this]; exact h1, h2⟩) k v hk
      simpa using this
def leftOf (tmps : Array Value) (r : ResultVar) : Sem Value := match r with
  | .tmp t => pure (tmps.getD t undef)
  | .cell c t => do loadVar t (← asAddr (tmps.getD c undef))
theorem results_rel (hG : GoodOK G) {T : Fr} {S : St} {j : Inj} {a : Act} {w : World} (hs : Sim G j S w) (hT : TRel j T a.tmps) : ∀ (l : List ResultVar) (vs : List Value), resultsL G.E T S l = some vs →
    ∃ vs', (l.mapM (leftOf a.tmps)).run G.P w = .ok vs' w ∧ VsRel j vs vs'
  | [], vs, h => by cases h; exact ⟨[], rfl, .nil⟩
  | r :: l, vs, h => by
    obtain ⟨v, hv, h1⟩ := ob_some h
    obtain ⟨us, hus, h2⟩ := ob_some h1
    cases h2
    obtain ⟨vs', h3, h4⟩ := results_rel hG hs hT l us hus
    have hone : ∃ v', (leftOf a.tmps r).run G.P w = .ok v' w ∧ VRel j v v' := by
      cases r with
      | tmp t =>
        obtain ⟨v', h5, h6⟩ := hT.2 t v hv
        exact ⟨v', by simp [leftOf, Array.getD_eq_getD_getElem?, h5], h6⟩
      | cell c t =>
        obtain ⟨p, hp, h5⟩ := ob_some hv
        obtain ⟨u, hu, h6⟩ := ob_some hp
        have := addrOf_some h6; subst this
        obtain ⟨u', h7, h8⟩ := hT.2 c _ hu
        obtain ⟨p', rfl, h9⟩ := h8.ptr_inv
        obtain ⟨v', h10, h11⟩ := hs.load_var hG h9 h5
        exact ⟨v', by simp [leftOf, Array.getD_eq_getD_getElem?, h7, asAddr, h10], h11⟩
    obtain ⟨v', h5, h6⟩ := hone
    refine ⟨v' :: vs', ?_, .cons h6 h4⟩
    rw [List.mapM_cons, Sem.run_bind, h5]
    simp only [Result.andThen_ok, Sem.run_bind, h3, Sem.run_pure]
theorem one_rel {j : Inj} {vs vs' : List Value} (h : VsRel j vs vs') : VRel j (oneL vs) (if h : vs'.toArray.size = 1 then vs'.toArray[0] else .tuple vs'.toArray) := by
  cases h with
  | nil => exact .tuple .nil
  | cons h1 h2 =>
    cases h2 with
    | nil => exact h1
    | cons h3 h4 =>
      have : ∀ (v1 v2 : Value) (l : List Value), oneL (v1 :: v2 :: l) = .tuple (v1 :: v2 :: l).toArray := fun _ _ _ => rfl
      rw [this, dif_neg (by simp)]
      exact .tuple (.cons h1 (.cons h3 h4))
theorem take_marks {P : Program} {r : Nat} {w : World} (h : w.heap[r]? = some (.deferred (some []))) : (Instr.takeDeferred r).run P w = .ok [] (w.putObj r (.deferred none)) := by
  simp [Instr.takeDeferred, getObj, setObj, Sem.run, h, World.putObj, bind, Sem.bind, pure]
theorem leave_sound (hG : GoodOK G) {F : Fence} {n : Nat} {fn : Func} {base : Nat} {j j' : Inj} {S S' : St} {w0 : World} {lo : Nat} {T : Fr} {tmps : Array Value} {vs : List Value} (hres : resultsL G.E T S' fn.results.toList = some vs) (hT : TRel j' T tmps) (hb : w0.heap.size ≤ base) :
    ∀ (ds : List Deferred) (w : World), Defs base j' w ds → Sim G j' S' w → Ext lo j S w0 j' S' w → LeavesInM F n G.P fn tmps (fun e w' => ∃ v' j', e = .returned v' ∧ VRel j' (oneL vs) v' ∧ Sim G j' S' w' ∧ Ext lo j S w0 j' S' w') ds .returning w
  | [], w, _, hs, he => by
    obtain ⟨vs', h1, h2⟩ := results_rel (a := { tmps := tmps, defers := [] }) hG hs hT fn.results.toList vs hres
    refine ⟨_, ?_, _, j', rfl, one_rel h2, hs, he⟩
    unfold results
    rw [Sem.run_bind, Array.mapM_eq_mapM_toList, Sem.run_map]
    show ((Sem.run G.P (List.mapM (leftOf tmps) fn.results.toList) w).andThen _).andThen _ = _
    rw [show Sem.run G.P (List.mapM (leftOf tmps) fn.results.toList) w = _ from h1]
    rfl
  | d :: ds, w, ⟨⟨r, h1, h2, h3, h4, h5⟩, hd⟩, hs, he => by
    have hlt : r < w.heap.size := (Array.getElem?_eq_some_iff.1 h3).1
    refine ⟨by simp, .inl ⟨r, _, by rw [h1], take_marks h3, leave_sound hG hres hT hb ds _ ?_ ?_ ?_⟩⟩
    · have key : ∀ ds, Defs base j' w ds → (∀ d' ∈ ds, d' ≠ d) → Defs base j' (w.putObj r (.deferred none)) ds := by
        intro ds
        induction ds with
        | nil => exact fun _ _ => trivial
        | cons d' ds ih =>
          rintro ⟨⟨r', h6, h7, h8, h9, h10⟩, hd'⟩ hne
          refine ⟨⟨r', h6, h7, ?_, h9, h10⟩, ih hd' fun d'' hd'' => hne d'' (by simp [hd''])⟩
          have : r' ≠ r := fun e => hne d' (by simp) (by rw [h6, h1, e])
          rw [World.putObj_heap_other this]; exact h8
      exact key ds hd h5
    · refine ⟨fun b x hb => ⟨(hs.dom b x hb).1, by rw [World.putObj_size]; exact (hs.dom b x hb).2⟩, fun b x o hb ho => ?_, hs.inj, hs.rom.world (fun b x hb => World.putObj_heap_other (h4 b x hb)) (fun _ h => h)⟩
      rw [World.putObj_heap_other (h4 b x hb)]
      exact hs.objs b x o hb ho
    · refine ⟨he.sub, he.size, by rw [World.putObj_size]; exact he.heap, he.dead, he.lfr, fun c hc hf => ?_, he.new, he.all, he.io⟩
      rw [World.putObj_heap_other (by omega)]
      exact he.fr c hc hf
theorem call_fn (hG : GoodOK G) (hC : SoundCodeR G (evCode G.E callF codeF)) : SoundCall G (callL G.E callF codeF) := by
  intro f args S v S' h00
  have h01 : bf (hookL G.E f args) (some (.bool true, S)) (ob (G.E.fns.get f) fun fn => ob fn.body fun c => gd (Nat.ble args.length fn.ntmps)
    (ob (evCode G.E callF codeF c none ⟨fn.ntmps, setAll args 0 .nil⟩ S) (leaveL G.E fn))) = some (v, S') := h00
  cases hh : hookL G.E f args with
  | true =>
    rw [hh] at h01
    cases h01
    unfold hookL at hh
    cases hk : G.E.hook with
    | none => rw [hk] at hh; cases hh
    | some h =>
      rw [hk] at hh
      simp only [Bool.and_eq_true] at hh
      obtain ⟨h1, h2⟩ := hG.hook h hk
      have := beq_eq hh.1; subst this
      refine ⟨h1, fun j args' w hs ha => ⟨Nat.le_refl _, ?_⟩⟩
      have hnil : args = [] := List.isEmpty_iff.1 hh.2
      subst hnil
      have : args' = #[] := by
        have := ha.length
        simpa using this.symm
      subst this
      refine (h2 w).mono ?_
      rintro e w' ⟨rfl, hio, h3, h4⟩
      refine ⟨_, j, rfl, .bool _, ⟨fun b x hb => ⟨(hs.dom b x hb).1, Nat.lt_of_lt_of_le (hs.dom b x hb).2 h3⟩, fun b x o hb ho => ?_, hs.inj, hs.rom.world (fun b x hb => h4 _ (hs.dom b x hb).2) (fun _ h => h)⟩,
        ⟨Le.refl _, Nat.le_refl _, h3, fun _ _ h => h, fun _ _ _ => rfl, fun c hc _ => h4 c hc, (fun b x h h' => by rw [h] at h'; cases h'), (fun b h1 h2 => by omega), hio⟩⟩
      rw [h4 _ (hs.dom b x hb).2]
      exact hs.objs b x o hb ho
  | false =>
  rw [hh] at h01
  have h0 : ob (G.E.fns.get f) (fun fn => ob fn.body fun c => gd (Nat.ble args.length fn.ntmps)
    (ob (evCode G.E callF codeF c none ⟨fn.ntmps, setAll args 0 .nil⟩ S) (leaveL G.E fn))) = some (v, S') := h01
  obtain ⟨fn, hfn, h1⟩ := ob_some h0
  obtain ⟨c, hc, h2⟩ := ob_some h1
  obtain ⟨hlen, h3⟩ := gd_some h2
  obtain ⟨q, hq, h4⟩ := ob_some h3
  obtain ⟨hex, h5⟩ := gd_some h4
  obtain ⟨vs, hvs, h6⟩ := ob_some h5
  cases h6
  obtain ⟨hf1, hf2, hf3⟩ := hG.fns f fn hfn
  refine ⟨⟨fn, hf1, hf2, by rw [hc]; rfl⟩, fun j args' w hs ha => ?_⟩
  have hlen := ble_le hlen
  have hal : args.length = args'.size := by have := ha.length; simpa using this
  have hT : TRel j ⟨fn.ntmps, setAll args 0 .nil⟩ (args' ++ Array.replicate (fn.ntmps - args'.size) undef) := by
    refine ⟨by simp; omega, fun k u hu => ?_⟩
    obtain ⟨u', h7, h8⟩ := set_all args args'.toList 0 .nil [] ha rfl (fun k v h => by rw [Tr.get_nil] at h; cases h) k u hu
    refine ⟨u', ?_, h8⟩
    have hk : k < args'.toList.length := (List.getElem?_eq_some_iff.1 (by simpa using h7)).1
    rw [Array.getElem?_append_left (by simpa using hk)]
    simpa using h7
  obtain ⟨m, hm⟩ := hC c none _ S q hq (hf3 c hc)
  obtain ⟨h7, h8⟩ := hm 0 w.heap.size j { tmps := args' ++ Array.replicate (fn.ntmps - args'.size) undef, defers := [] } w none trivial hs hT (Nat.le_refl _) trivial
  refine ⟨h7, callsIn_wide.1 (callsIn_of_wp_marks (n := 0) hf1 hc trivial (wpIn_mono h8.wp ?_))⟩
  rintro e a' w' ⟨he, j', h9, h10, h11, h12⟩
  have hl := leave_sound (F := Fence.wide) (n := 0) hG (w0 := w) hvs h11 (Nat.le_refl _) a'.defers w' h12 h9 h10
  cases hqe : q.ex with
  | normal => rw [he, hqe]; exact hl
  | ret => rw [he, hqe]; exact hl
  | exit id => rw [hqe] at hex; cases hex
theorem run_sound (hG : GoodOK G) : ∀ n, SoundCall G (run G.E n).call ∧ SoundCodeR G (run G.E n).code
  | 0 => ⟨(fun f args S v S' h => by cases h), (fun c rd T S r h => by cases h)⟩
  | n + 1 => by
    obtain ⟨h1, h2⟩ := run_sound hG n
    have h3 := code_sound hG h1 h2
    exact ⟨call_fn hG h3, h3⟩
end
end Go.Proofs.YtncpeobcgmkkbaaGreat
/- A run without arguments, cut at its statements: each one is run by the kernel out of a small memory that is written down. -/
namespace Go.Proofs.YtncpeobcgmkkbaaGreat
section
variable {α : Type}
noncomputable def ofL : List (Nat × α) → Tr α
  | [] => .nil
  | p :: l => (ofL l).set p.1 p.2
theorem ofL_get {n : Nat} {v : α} : ∀ {l : List (Nat × α)}, (ofL l).get n = some v → (n, v) ∈ l
  | [], h => by rw [ofL, Tr.get_nil] at h; cases h
  | p :: l, h => by
    rw [ofL, Tr.get_set] at h
    split at h
    · rename_i e; cases h; rw [e]; simp
    · exact List.mem_cons_of_mem _ (ofL_get h)
end

def eqL {α : Type} (f : α → α → Bool) : List α → List α → Bool
  | [], [] => true
  | x :: a, y :: b => f x y && eqL f a b
  | _, _ => false
theorem eqL_eq {α : Type} {f : α → α → Bool} (hf : ∀ x y, f x y = true → x = y) : ∀ {a b : List α}, eqL f a b = true → a = b
  | [], [], _ => rfl
  | x :: a, y :: b, h => by
    simp only [eqL, Bool.and_eq_true] at h
    rw [hf _ _ h.1, eqL_eq hf h.2]
  | [], _ :: _, h => by cases h
  | _ :: _, [], h => by cases h
def eqA : Option Addr → Option Addr → Bool
  | none, none => true
  | some a, some b => Nat.beq a.block b.block && (Nat.beq a.off b.off && decide (a.spot = b.spot))
  | _, _ => false
theorem eqA_eq {a b : Option Addr} (h : eqA a b = true) : a = b := by
  unfold eqA at h
  split at h
  · rfl
  · rename_i a b
    simp only [Bool.and_eq_true, decide_eq_true_eq] at h
    cases a; cases b
    simp only at h
    rw [beq_eq h.1, beq_eq h.2.1, h.2.2]
  · cases h
def eqV : Nat → Value → Value → Bool
  | 0, _, _ => false
  | n + 1, x, y => match x, y with
    | .bool a, .bool b => a == b
    | .int k a, .int l b => decide (k = l) && decide (a = b)
    | .string a, .string b => decide (a.data.toList = b.data.toList)
    | .pointer a, .pointer b => eqA a b
    | .slice a i c, .slice b m d => eqA a b && (Nat.beq i m && Nat.beq c d)
    | .map none, .map none => true
    | .map (some a), .map (some b) => Nat.beq a b
    | .nilFunc, .nilFunc => true
    | .nilIface, .nilIface => true
    | .agg a, .agg b => eqL (eqV n) a.toList b.toList
    | .tuple a, .tuple b => eqL (eqV n) a.toList b.toList
    | _, _ => false
theorem eqV_eq : ∀ (n : Nat) (x y : Value), eqV n x y = true → x = y
  | 0, _, _, h => by cases h
  | n + 1, x, y, h => by
    unfold eqV at h
    split at h
    · rw [eq_of_beq h]
    · simp only [Bool.and_eq_true, decide_eq_true_eq] at h; rw [h.1, h.2]
    · rename_i a b
      have : a = b := by
        cases a; cases b
        rw [decide_eq_true_eq] at h
        exact congrArg _ (Array.toList_inj.1 h)
      rw [this]
    · rw [eqA_eq h]
    · simp only [Bool.and_eq_true] at h; rw [eqA_eq h.1, beq_eq h.2.1, beq_eq h.2.2]
    · rfl
    · rw [beq_eq h]
    · rfl
    · rfl
    · rw [Array.toList_inj.1 (eqL_eq (eqV_eq n) h)]
    · rw [Array.toList_inj.1 (eqL_eq (eqV_eq n) h)]
    · cases h
def eqO : LObj → LObj → Bool
  | .cells c e, .cells d f => eqL (eqV 6) c d && Nat.beq e f
  | .map c, .map d => eqL (fun p q => eqV 6 p.1 q.1 && eqV 6 p.2 q.2) c d
  | _, _ => false
theorem eqO_eq {x y : LObj} (h : eqO x y = true) : x = y := by
  unfold eqO at h
  split at h
  · simp only [Bool.and_eq_true] at h
    rw [eqL_eq (eqV_eq 6) h.1, beq_eq h.2]
  · rw [eqL_eq (fun p q h => by
      simp only [Bool.and_eq_true] at h
      exact Prod.ext (eqV_eq 6 _ _ h.1) (eqV_eq 6 _ _ h.2)) h]
  · cases h

noncomputable section
def frL (n : Nat) (l : List (Nat × Value)) : Fr := ⟨n, ofL l⟩
def stL (n : Nat) (l : List (Nat × LObj)) : St := ⟨ofL l, n, n⟩
def fitT (l : List (Nat × Value)) (T : Fr) : Bool := l.all fun p => match T.t.get p.1 with
  | some u => eqV 6 p.2 u
  | none => false
def fitS (l : List (Nat × LObj)) (S : St) : Bool := l.all fun p => match S.heap.get p.1 with
  | some u => eqO p.2 u
  | none => false
def isNormalL : LExit → Bool
  | .normal => true
  | _ => false
/-- What is written down (m temporaries, among them lt; k blocks, among them h) holds behind a run of c. -/
def fits (r : Option Res) (m : Nat) (lt : List (Nat × Value)) (k : Nat) (h : List (Nat × LObj)) : Bool := match r with
  | some r => isNormalL r.ex && (Nat.beq r.T.n m && (fitT lt r.T && (Nat.beq r.S.size k && fitS h r.S)))
  | none => false
def pieceOk (E : Env) (fuel : Nat) (c : Code) (T : Fr) (S : St) (m : Nat) (lt : List (Nat × Value)) (k : Nat) (h : List (Nat × LObj)) : Bool :=
  chkC c && fits ((run E fuel).code c none T S) m lt k h
end

def seqs : Code → List Code
  | .seq a b => seqs a ++ seqs b
  | c => [c]
def wpL (P : Program) (n : Nat) (Q : Exit → Act → World → Prop) : List Code → Act → World → Prop
  | [], a, w => Q .normal a w
  | c :: l, a, w => c.wpIn Fence.wide n P (fun e a' w' => match e with
    | .normal => wpL P n Q l a' w'
    | e => Q e a' w') a w
theorem wp_seqs {P : Program} {n : Nat} {Q : Exit → Act → World → Prop} : ∀ (c : Code) (l : List Code) (a : Act) (w : World), wpL P n Q (seqs c ++ l) a w → c.wpIn Fence.wide n P (fun e a' w' => match e with
    | .normal => wpL P n Q l a' w'
    | e => Q e a' w') a w := by
  intro c
  induction c with
  | seq x y ihx ihy =>
    intro l a w h
    rw [seqs, List.append_assoc] at h
    refine wpIn_seq (wpIn_mono (ihx _ a w h) ?_)
    intro e a' w' h
    cases e with
    | normal => exact ihy l a' w' h
    | _ => exact h
  | _ => exact fun l a w h => h

section
variable {G : Good} {base : Nat}
/-- The machine stands as the evaluator does. -/
def At (G : Good) (w0 : World) (base : Nat) (T : Fr) (S : St) (a : Act) (w : World) : Prop := ∃ j, Sim G j S w ∧ TRel j T a.tmps ∧ base ≤ w.heap.size ∧ Defs base j w a.defers ∧ (∀ b x, j b = some x → base ≤ x.blk) ∧ SameIo w0 w ∧ ∀ c, c < base → w.heap[c]? = w0.heap[c]?
def Ends (w0 : World) (base : Nat) (t : Tmp) (v : Value) (e : Exit) (a : Act) (w : World) : Prop := (e = .ret ∨ e = .normal) ∧ ∃ j, TRel j ⟨0, Tr.nil.set t v⟩ a.tmps ∧ Defs base j w a.defers ∧ SameIo w0 w ∧ base ≤ w.heap.size ∧ ∀ c, c < base → w.heap[c]? = w0.heap[c]?
def Runs (G : Good) (t : Tmp) (v : Value) (l : List Code) (T : Fr) (S : St) : Prop := ∀ w0 base n a w, At G w0 base T S a w → wpL G.P n (Ends w0 base t v) l a w

theorem fitT_rel {l : List (Nat × Value)} {T : Fr} (h : fitT l T = true) {j : Inj} {tmps : Array Value} (hT : TRel j T tmps) : TRel j (frL T.n l) tmps := by
  refine ⟨hT.1, fun t v hv => ?_⟩
  have hm := ofL_get hv
  have := List.all_eq_true.1 h _ hm
  split at this
  · rename_i u hu
    have e : v = u := eqV_eq _ _ _ this
    rw [e]
    exact hT.2 t u hu
  · cases this
theorem fitS_get {l : List (Nat × LObj)} {S : St} (h : fitS l S = true) {b : Nat} {o : LObj} (hb : (ofL l).get b = some o) : S.heap.get b = some o := by
  have := List.all_eq_true.1 h _ (ofL_get hb)
  split at this
  · rename_i u hu
    have e : o = u := eqO_eq this
    rw [e]; exact hu
  · cases this
theorem fitS_sim {l : List (Nat × LObj)} {S : St} (h : fitS l S = true) {j : Inj} {w : World} (hs : Sim G j S w) : Sim G j (stL S.size l) w := by
  refine ⟨hs.dom, fun b x o hb ho => hs.objs b x o hb (fitS_get h ho), fun b c x y hb hc lb lc e => ?_, hs.rom.world (fun _ _ _ => rfl) (fun d ⟨o, ho, hd⟩ => ⟨o, fitS_get h ho, hd⟩)⟩
  obtain ⟨o, ho, hd⟩ := lb
  obtain ⟨p, hp, hq⟩ := lc
  exact hs.inj b c x y hb hc ⟨o, fitS_get h ho, hd⟩ ⟨p, fitS_get h hp, hq⟩ e

theorem Runs.step (hG : GoodOK G) {t : Tmp} {v : Value} {fuel : Nat} {c : Code} {l : List Code} {T : Fr} {S : St} {m k : Nat} {lt : List (Nat × Value)} {h : List (Nat × LObj)}
    (hp : pieceOk G.E fuel c T S m lt k h = true) (hn : Runs G t v l (frL m lt) (stL k h)) : Runs G t v (c :: l) T S := by
  intro w0 base n a w ⟨j, hs, hT, hb, hD, hrg, hio, hlw⟩
  simp only [pieceOk, Bool.and_eq_true] at hp
  obtain ⟨hc, hf⟩ := hp
  unfold fits at hf
  split at hf
  · rename_i r hr
    simp only [Bool.and_eq_true] at hf
    obtain ⟨h1, h2, h3, h4, h5⟩ := hf
    obtain ⟨_, h6⟩ := (run_sound hG fuel).2.sound c none T S r hr hc n base j a w none trivial hs hT hb hD
    refine wpIn_mono h6 ?_
    rintro e a' w' ⟨he, j', h7, h8, h9, h10⟩
    have hn1 : r.ex = .normal := by
      cases hx : r.ex <;> rw [hx] at h1 <;> first | rfl | cases h1
    rw [hn1] at he
    subst he
    refine hn w0 base n a' w' ⟨j', ?_, ?_, Nat.le_trans hb h8.heap, h10, ?_, hio.trans h8.io, ?_⟩
    · rw [← beq_eq h4]; exact fitS_sim h5 h7
    · rw [← beq_eq h2]; exact fitT_rel h3 h9
    · intro b x hbx
      cases hj : j b with
      | some y =>
        have := h8.sub b y hj
        rw [hbx] at this; cases this
        exact hrg b x hj
      | none =>
        obtain ⟨_, h11⟩ := h8.new b x hbx hj
        rcases h11 with h11 | ⟨c, y, h12, _, _, h13⟩
        · omega
        · rw [← h13]; exact hrg c y h12
    · intro c hcb
      rw [h8.fr c (by omega) fun b x hbx _ _ e => by have := hrg b x hbx; omega]
      exact hlw c hcb
  · cases hf
theorem Runs.ret {t : Tmp} {v : Value} {l : List Code} {T : Fr} {S : St} (h : T.t.get t = some v) : Runs G t v (.ret :: l) T S := by
  intro w0 base n a w ⟨j, hs, hT, hb, hD, hrg, hio, hlw⟩
  refine wpIn_ret ⟨.inl rfl, j, ⟨Nat.zero_le _, fun t' v' hv => ?_⟩, hD, hio, hb, hlw⟩
  rw [Tr.get_set, Tr.get_nil] at hv
  split at hv
  · rename_i e; cases hv; rw [e]; exact hT.2 t v h
  · cases hv
theorem leaves_const (hG : GoodOK G) {F : Fence} {n : Nat} {fn : Func} {j : Inj} {t : Tmp} {v : Bool} {tmps : Array Value} {w0 : World} (hr : fn.results.toList = [.tmp t]) (hT : TRel j ⟨0, Tr.nil.set t (.bool v)⟩ tmps) :
    ∀ (ds : List Deferred) (w : World), Defs base j w ds → SameIo w0 w → base ≤ w.heap.size → (∀ c, c < base → w.heap[c]? = w0.heap[c]?) → LeavesInM F n G.P fn tmps (fun e w' => e = .returned (.bool v) ∧ SameIo w0 w' ∧ base ≤ w'.heap.size ∧ ∀ c, c < base → w'.heap[c]? = w0.heap[c]?) ds .returning w
  | [], w, _, hio, hb, hl => by
    obtain ⟨v', h1, h2⟩ := hT.2 t (.bool v) (by rw [Tr.get_set, if_pos rfl])
    have := h2.bool_inv; subst this
    refine ⟨.bool v, ?_, rfl, hio, hb, hl⟩
    unfold results
    rw [Sem.run_bind, Array.mapM_eq_mapM_toList, Sem.run_map, hr]
    simp [List.mapM_cons, Array.getD_eq_getD_getElem?, h1, Result.andThen]
  | d :: ds, w, ⟨⟨r, h1, h2, h3, h4, h5⟩, hd⟩, hio, hb, hl => by
    refine ⟨by simp, .inl ⟨r, _, by rw [h1], take_marks h3, leaves_const hG hr hT ds _ ?_ (hio.trans ⟨rfl, rfl, rfl⟩) (by rw [World.putObj_size]; exact hb) (fun c hc => by rw [World.putObj_heap_other (by omega)]; exact hl c hc)⟩⟩
    have key : ∀ ds, Defs base j w ds → (∀ d' ∈ ds, d' ≠ d) → Defs base j (w.putObj r (.deferred none)) ds := by
      intro ds
      induction ds with
      | nil => exact fun _ _ => trivial
      | cons d' ds ih =>
        rintro ⟨⟨r', h6, h7, h8, h9, h10⟩, hd'⟩ hne
        refine ⟨⟨r', h6, h7, ?_, h9, h10⟩, ih hd' fun d'' hd'' => hne d'' (by simp [hd''])⟩
        have : r' ≠ r := fun e => hne d' (by simp) (by rw [h6, h1, e])
        rw [World.putObj_heap_other this]; exact h8
    exact key ds hd h5

/-- A function without arguments whose statements run through to a truth value. -/
theorem const_calls (hG : GoodOK G) (hro : G.E.rom = .nil) {f : FuncId} {fn : Func} {c : Code} {t : Tmp} {v : Bool} (hf : G.P.funcs[f]? = some fn) (hc : fn.body = some c) (hr : fn.results.toList = [.tmp t])
    (h : Runs G t (.bool v) (seqs c) ⟨fn.ntmps, .nil⟩ St.empty) (w : World) : Calls G.P f #[] w (fun e w' => e = .returned (.bool v) ∧ SameIo w w' ∧ w.heap.size ≤ w'.heap.size ∧ ∀ c, c < w.heap.size → w'.heap[c]? = w.heap[c]?) := by
  have h0 : At G w w.heap.size ⟨fn.ntmps, .nil⟩ St.empty { tmps := #[] ++ Array.replicate (fn.ntmps - (#[] : Array Value).size) undef, defers := [] } w := by
    refine ⟨fun _ => none, ⟨(fun b x h => by cases h), (fun b x o h => by cases h), (fun b c x y h => by cases h), (fun b c h => by rw [hro, Tr.get_nil] at h; cases h)⟩, ⟨by simp, fun t v hv => ?_⟩, Nat.le_refl _, trivial, (fun b x h => by cases h), SameIo.refl w, fun _ _ => rfl⟩
    rw [Tr.get_nil] at hv; cases hv
  have h1 := h w w.heap.size 0 _ w h0
  rw [← List.append_nil (seqs c)] at h1
  refine callsIn_wide.1 (callsIn_of_wp_marks (n := 0) hf hc trivial (wpIn_mono (wp_seqs c [] _ w h1) ?_))
  rintro e a' w' h2
  have h3 : Ends w w.heap.size t (.bool v) e a' w' := by
    cases e with
    | normal => exact h2
    | _ => exact h2
  obtain ⟨he, j, h4, h5, h5', h6, h7⟩ := h3
  have hl := leaves_const (F := Fence.wide) (n := 0) hG hr h4 a'.defers w' h5 h5' h6 h7
  rcases he with rfl | rfl <;> exact hl
end

/-- The functions of some numbers. -/
def pick (P : Program) : List Nat → List (Nat × Func)
  | [] => []
  | i :: l => match P.funcs[i]? with
    | some f => (i, f) :: pick P l
    | none => pick P l
noncomputable def envOf (P : Program) (n : Nat) (ids : List Nat) : Env := { ti := tiOf P n .nil, fns := fnsOf (pick P ids) }
noncomputable def fnOk (q : Nat × Func) : Bool := !(q.2.name == "runtime.NumGoroutine") && (match q.2.body with
  | some c => chkC c
  | none => true)
theorem pick_mem {P : Program} {q : Nat × Func} : ∀ {l : List Nat}, q ∈ pick P l → P.funcs[q.1]? = some q.2
  | [], h => by cases h
  | i :: l, h => by
    unfold pick at h
    split at h
    · rename_i f hf
      rcases List.mem_cons.1 h with rfl | h
      · exact hf
      · exact pick_mem h
    · exact pick_mem h
theorem fnsOf_get {f : Nat} {fn : Func} : ∀ {l : List (Nat × Func)}, (fnsOf l).get f = some fn → (f, fn) ∈ l
  | [], h => by rw [fnsOf, Tr.get_nil] at h; cases h
  | p :: l, h => by
    obtain ⟨i, g⟩ := p
    rw [fnsOf, Tr.get_set] at h
    split at h
    · rename_i e; cases h; rw [e]; simp
    · exact List.mem_cons_of_mem _ (fnsOf_get h)
theorem tyOf_ok {P : Program} {t : TypeId} {x : LTy} (h : tyOf P t = some x) : TiOK P t x := by
  unfold tyOf at h
  split at h
  · rename_i i d hi hd
    split at h
    · rename_i z hz
      obtain ⟨hg, h1⟩ := gd_some h
      rw [Bool.and_eq_true] at hg
      cases h1
      exact ⟨⟨i, hi, rfl, rfl, hz⟩, hd, rfl, hg.1, fun h => h, hg.2⟩
    · cases h
  · cases h
theorem tiOf_get {P : Program} {t : TypeId} {x : LTy} : ∀ (n : Nat) {T : Tr LTy}, (∀ x, T.get t = some x → tyOf P t = some x) → (tiOf P n T).get t = some x → tyOf P t = some x
  | 0, T, hT, h => hT x h
  | n + 1, T, hT, h => by
    rw [tiOf] at h
    refine tiOf_get n (T := _) ?_ h
    intro y hy
    split at hy
    · rename_i z hz
      rw [Tr.get_set] at hy
      split at hy
      · rename_i e; cases hy; rw [e]; exact hz
      · exact hT y hy
    · exact hT y hy
theorem good_env {P : Program} {n : Nat} {ids : List Nat} (hm : P.follows .mixedOrders = true) (hf : (pick P ids).all fnOk = true) : GoodOK ⟨P, envOf P n ids⟩ := by
  refine ⟨hm, fun t x h => tyOf_ok (tiOf_get n (fun x h => by rw [Tr.get_nil] at h; cases h) h), (fun h hk => by cases hk), fun f fn h => ?_⟩
  have h1 := fnsOf_get h
  have h2 := List.all_eq_true.1 hf _ h1
  simp only [fnOk, Bool.and_eq_true, Bool.not_eq_true'] at h2
  refine ⟨pick_mem h1, h2.1, fun c hc => ?_⟩
  rw [hc] at h2
  exact h2.2

noncomputable section
def codeAt (l : List Code) (i : Nat) : Code := (l[i]?).getD .skip
def bodyOf (P : Program) (f : Nat) : Code := match P.funcs[f]? with
  | some fn => fn.body.getD .skip
  | none => .skip
def isRet : Code → Bool
  | .ret => true
  | _ => false
def isTmp (t : Tmp) : List ResultVar → Bool
  | [.tmp s] => Nat.beq s t
  | _ => false
/-- A function with a body, N temporaries, and the one result t. -/
def constFn (P : Program) (f : Nat) (t : Tmp) (N : Nat) : Bool := match P.funcs[f]? with
  | some fn => match fn.body with
    | some _ => isTmp t fn.results.toList && Nat.beq fn.ntmps N
    | none => false
  | none => false
end
theorem drop_codes {l : List Code} {i : Nat} (h : Nat.blt i l.length = true) : l.drop i = codeAt l i :: l.drop (i + 1) := by
  have hi := blt_lt h
  rw [List.drop_eq_getElem_cons hi, codeAt, List.getElem?_eq_getElem hi, Option.getD_some]
theorem Runs.at {G : Good} {t : Tmp} {v : Value} (hG : GoodOK G) {fuel i : Nat} {l : List Code} {T : Fr} {S : St} {m k : Nat} {lt : List (Nat × Value)} {h : List (Nat × LObj)} (hi : Nat.blt i l.length = true)
    (hp : pieceOk G.E fuel (codeAt l i) T S m lt k h = true) (hn : Runs G t v (l.drop (i + 1)) (frL m lt) (stL k h)) : Runs G t v (l.drop i) T S := by
  rw [drop_codes hi]; exact Runs.step hG hp hn
theorem Runs.retAt {G : Good} {t : Tmp} {v : Bool} {i : Nat} {l : List Code} {T : Fr} {S : St} (hi : Nat.blt i l.length = true) (hr : isRet (codeAt l i) = true) (h : ob (T.t.get t) boolOf = some v) : Runs G t (.bool v) (l.drop i) T S := by
  rw [drop_codes hi]
  cases hc : codeAt l i <;> rw [hc] at hr <;> first | (cases hr; done) | skip
  obtain ⟨u, hu, h1⟩ := ob_some h
  have := boolOf_some h1; subst this
  exact Runs.ret hu
theorem const_run {G : Good} (hG : GoodOK G) (hro : G.E.rom = .nil) {f : FuncId} {t : Tmp} {N : Nat} {v : Bool} (hk : constFn G.P f t N = true) (h : Runs G t (.bool v) ((seqs (bodyOf G.P f)).drop 0) ⟨N, .nil⟩ St.empty) (w : World) :
    Calls G.P f #[] w (fun e w' => e = .returned (.bool v) ∧ SameIo w w' ∧ w.heap.size ≤ w'.heap.size ∧ ∀ c, c < w.heap.size → w'.heap[c]? = w.heap[c]?) := by
  unfold constFn at hk
  split at hk
  · rename_i fn hf
    split at hk
    · rename_i c hc
      rw [Bool.and_eq_true] at hk
      obtain ⟨h1, h2⟩ := hk
      have hb : bodyOf G.P f = c := by simp only [bodyOf, hf, hc, Option.getD_some]
      have hr : fn.results.toList = [.tmp t] := by
        unfold isTmp at h1
        split at h1
        · rename_i s e; rw [e, beq_eq h1]
        · cases h1
      rw [hb, ← beq_eq h2] at h
      exact const_calls hG hro hf hc hr h w
    · cases hk
  · cases hk
end Go.Proofs.YtncpeobcgmkkbaaGreat
/- A calculus for runs of the evaluator: what a piece of code leaves, from a frame of which some temporaries are known. -/
namespace Go.Proofs.YtncpeobcgmkkbaaGreat

abbrev Kn := List (Nat × Value)
def lk : Kn → Nat → Option Value
  | [], _ => none
  | (s, v) :: l, t => bif Nat.beq s t then some v else lk l t
def lv (l : Kn) : Operand → Option Value
  | .tmp t => lk l t
  | .const v => some v
  | .global _ => none
  | .func f => some (.func (.func f) #[] #[])
noncomputable def lvs (l : Kn) : List Operand → Option (List Value)
  | [] => some []
  | x :: xs => ob (lv l x) fun v => ob (lvs l xs) fun vs => some (v :: vs)
/-- What is known of a frame holds in it. -/
def Fits (l : Kn) (T : Fr) : Prop := ∀ t v, lk l t = some v → T.t.get t = some v
theorem Fits.ev {l : Kn} {T : Fr} (h : Fits l T) {x : Operand} {v : Value} (hx : lv l x = some v) : T.ev x = some v := by
  cases x with
  | tmp t => exact h t v hx
  | const u => exact hx
  | global g => cases hx
  | func f => exact hx
theorem Fits.evs {l : Kn} {T : Fr} (h : Fits l T) : ∀ {xs : List Operand} {vs : List Value}, lvs l xs = some vs → T.evs xs = some vs
  | [], vs, hx => hx
  | x :: xs, vs, hx => by
    obtain ⟨v, hv, h1⟩ := ob_some hx
    obtain ⟨us, hu, h2⟩ := ob_some h1
    show ob (T.ev x) _ = _
    rw [h.ev hv]
    show ob (T.evs xs) _ = _
    rw [h.evs hu]
    exact h2
theorem Fits.put {l : Kn} {T : Fr} (h : Fits l T) {d : Nat} (hd : Nat.blt d T.n = true) (v : Value) : ∃ T', T.put (some d) v = some T' ∧ T'.n = T.n ∧ Fits ((d, v) :: l) T' := by
  refine ⟨⟨T.n, T.t.set d v⟩, ?_, rfl, fun t u hu => ?_⟩
  · show gd (Nat.blt d T.n) _ = _
    rw [hd]; rfl
  · show (T.t.set d v).get t = some u
    rw [Tr.get_set]
    simp only [lk, Tr.beq_def] at hu
    by_cases e : t = d
    · subst e; simpa using hu
    · rw [if_neg e]
      exact h t u (by simpa [show ¬ d = t from fun e' => e e'.symm] using hu)
theorem Fits.weak {l l' : Kn} {T : Fr} (h : Fits l T) (hw : ∀ p ∈ l', lk l p.1 = some p.2) : Fits l' T := by
  intro t v hv
  have : ∀ (l' : Kn), lk l' t = some v → (t, v) ∈ l' := by
    intro l'
    induction l' with
    | nil => intro h; cases h
    | cons p l' ih =>
      intro h
      simp only [lk, Tr.beq_def] at h
      by_cases e : p.1 = t
      · simp only [e, decide_true, cond_true, Option.some.injEq] at h
        have : p = (t, v) := Prod.ext e h
        rw [this]; simp
      · simp only [e, decide_false, cond_false] at h
        exact List.mem_cons_of_mem _ (ih h)
  exact h t v (hw _ (this _ hv))

section
variable {E : Env} {N : Nat}
def Co (E : Env) (c : Code) (rd : Option Nat) (T : Fr) (S : St) (Q : Res → Prop) : Prop := ∃ n r, (∀ m, n ≤ m → (run E m).code c rd T S = some r) ∧ Q r
def Ca (E : Env) (f : Nat) (args : List Value) (S : St) (Q : Value → St → Prop) : Prop := S.low ≤ S.size → ∃ n v S', (∀ m, n ≤ m → (run E m).call f args S = some (v, S')) ∧ S'.low ≤ S'.size ∧ Q v S'
abbrev Post := LExit → Kn → St → Prop
def W (E : Env) (N : Nat) (rd : Option Nat) (c : Code) (l : Kn) (S : St) (Q : Post) : Prop := ∀ T, T.n = N → Fits l T → S.low ≤ S.size →
  Co E c rd T S fun r => ∃ l', r.T.n = N ∧ Fits l' r.T ∧ r.S.low ≤ r.S.size ∧ Q r.ex l' r.S
/-- The rest of a row of operations. -/
def WO (E : Env) (N : Nat) (ops : Array Oper) (rest : List Oper) (l : Kn) (S : St) (Q : Kn → St → Prop) : Prop := ∀ T, T.n = N → Fits l T → S.low ≤ S.size →
  ∃ n r, (∀ m, n ≤ m → evSeq E (run E m).call (run E m).code ops rest T S = some r) ∧ ∃ l', r.1.n = N ∧ Fits l' r.1 ∧ r.2.low ≤ r.2.size ∧ Q l' r.2

theorem W.mono {rd : Option Nat} {c : Code} {l : Kn} {S : St} {Q Q' : Post} (h : W E N rd c l S Q) (hq : ∀ e l' S', Q e l' S' → Q' e l' S') : W E N rd c l S Q' := by
  intro T hN hT hl
  obtain ⟨n, r, h1, l', h2, h3, h4, h5⟩ := h T hN hT hl
  exact ⟨n, r, h1, l', h2, h3, h4, hq _ _ _ h5⟩
theorem W.weak {rd : Option Nat} {c : Code} {l l' : Kn} {S : St} {Q : Post} (h : W E N rd c l' S Q) (hw : ∀ p ∈ l', lk l p.1 = some p.2) : W E N rd c l S Q :=
  fun T hN hT hl => h T hN (hT.weak hw) hl
theorem code_succ (m : Nat) (c : Code) (rd : Option Nat) (T : Fr) (S : St) : (run E (m + 1)).code c rd T S = evCode E (run E m).call (run E m).code c rd T S := rfl
theorem call_succ (m f : Nat) (args : List Value) (S : St) : (run E (m + 1)).call f args S = callL E (run E m).call (run E m).code f args S := rfl
theorem le_succ_ex {n m : Nat} (h : n + 1 ≤ m) : ∃ k, m = k + 1 ∧ n ≤ k := ⟨m - 1, by omega, by omega⟩

theorem W.skip {rd : Option Nat} {l : Kn} {S : St} {Q : Post} (h : Q .normal l S) : W E N rd .skip l S Q := fun T hN hT hl =>
  ⟨1, ⟨.normal, T, S⟩, fun m hm => by obtain ⟨k, rfl, _⟩ := le_succ_ex hm; rfl, l, hN, hT, hl, h⟩
theorem W.ret {rd : Option Nat} {l : Kn} {S : St} {Q : Post} (h : Q .ret l S) : W E N rd .ret l S Q := fun T hN hT hl =>
  ⟨1, ⟨.ret, T, S⟩, fun m hm => by obtain ⟨k, rfl, _⟩ := le_succ_ex hm; rfl, l, hN, hT, hl, h⟩
theorem W.exit {rd : Option Nat} {id : Nat} {l : Kn} {S : St} {Q : Post} (h : Q (.exit id) l S) : W E N rd (.exit id) l S Q := fun T hN hT hl =>
  ⟨1, ⟨.exit id, T, S⟩, fun m hm => by obtain ⟨k, rfl, _⟩ := le_succ_ex hm; rfl, l, hN, hT, hl, h⟩
theorem W.seq {rd : Option Nat} {a b : Code} {l : Kn} {S : St} {Q : Post} (h : W E N rd a l S fun e l' S' => match e with
    | .normal => W E N rd b l' S' Q
    | e => Q e l' S') : W E N rd (.seq a b) l S Q := by
  intro T hN hT hl
  obtain ⟨n, r, h1, l', h2, h3, h4, h5⟩ := h T hN hT hl
  cases hr : r.ex with
  | normal =>
    rw [hr] at h5
    obtain ⟨n2, r2, h6, h7⟩ := h5 r.T h2 h3 h4
    refine ⟨n + n2 + 1, r2, fun m hm => ?_, h7⟩
    obtain ⟨k, rfl, hk⟩ := le_succ_ex hm
    show ob ((run E (k + 1)).code a rd T S) (fun q => onNormal q ((run E (k + 1)).code b rd)) = _
    rw [h1 _ (by omega)]
    show onNormal r _ = _
    unfold onNormal
    rw [hr]
    exact h6 _ (by omega)
  | exit id =>
    rw [hr] at h5
    refine ⟨n + 1, r, fun m hm => ?_, l', h2, h3, h4, by rw [hr]; exact h5⟩
    obtain ⟨k, rfl, hk⟩ := le_succ_ex hm
    show ob ((run E (k + 1)).code a rd T S) (fun q => onNormal q ((run E (k + 1)).code b rd)) = _
    rw [h1 _ (by omega)]
    show onNormal r _ = _
    unfold onNormal
    rw [hr]
  | ret =>
    rw [hr] at h5
    refine ⟨n + 1, r, fun m hm => ?_, l', h2, h3, h4, by rw [hr]; exact h5⟩
    obtain ⟨k, rfl, hk⟩ := le_succ_ex hm
    show ob ((run E (k + 1)).code a rd T S) (fun q => onNormal q ((run E (k + 1)).code b rd)) = _
    rw [h1 _ (by omega)]
    show onNormal r _ = _
    unfold onNormal
    rw [hr]
theorem W.cond {rd : Option Nat} {c : Operand} {a b : Code} {l : Kn} {S : St} {Q : Post} {t : Bool} (hc : lv l c = some (.bool t)) (h1 : t = true → W E N rd a l S Q) (h2 : t = false → W E N rd b l S Q) : W E N rd (.cond c a b) l S Q := by
  intro T hN hT hl
  have hev := hT.ev hc
  have go : ∀ k, (run E (k + 1)).code (.cond c a b) rd T S = bf t ((run E (k + 1)).code a rd T S) ((run E (k + 1)).code b rd T S) := fun k => by
    show ob (ob (T.ev c) boolOf) _ = _
    rw [hev]; rfl
  cases t with
  | true =>
    obtain ⟨n, r, h3, h4⟩ := h1 rfl T hN hT hl
    refine ⟨n + 1, r, fun m hm => ?_, h4⟩
    obtain ⟨k, rfl, hk⟩ := le_succ_ex hm
    rw [go]; exact h3 _ (by omega)
  | false =>
    obtain ⟨n, r, h3, h4⟩ := h2 rfl T hN hT hl
    refine ⟨n + 1, r, fun m hm => ?_, h4⟩
    obtain ⟨k, rfl, hk⟩ := le_succ_ex hm
    rw [go]; exact h3 _ (by omega)
theorem W.block {rd : Option Nat} {id : Nat} {b : Code} {l : Kn} {S : St} {Q : Post} (h : W E N rd b l S fun e l' S' => match e with
    | .exit k => if k = id then Q .normal l' S' else Q (.exit k) l' S'
    | e => Q e l' S') : W E N rd (.block id b) l S Q := by
  intro T hN hT hl
  obtain ⟨n, r, h1, l', h2, h3, h4, h5⟩ := h T hN hT hl
  have go : ∀ k, n ≤ k → (run E (k + 1)).code (.block id b) rd T S = onExit id r := fun k hk => by
    show ob ((run E (k + 1)).code b rd T S) (onExit id) = _
    rw [h1 _ (by omega)]; rfl
  obtain ⟨ex, T1, S1⟩ := r
  cases ex with
  | normal => exact ⟨n + 1, _, fun m hm => by obtain ⟨k, rfl, hk⟩ := le_succ_ex hm; exact go k hk, l', h2, h3, h4, h5⟩
  | ret => exact ⟨n + 1, _, fun m hm => by obtain ⟨k, rfl, hk⟩ := le_succ_ex hm; exact go k hk, l', h2, h3, h4, h5⟩
  | exit k0 =>
    refine ⟨n + 1, ⟨bf (Nat.beq k0 id) .normal (.exit k0), T1, S1⟩, fun m hm => by obtain ⟨k, rfl, hk⟩ := le_succ_ex hm; exact go k hk, l', h2, h3, h4, ?_⟩
    by_cases e : k0 = id
    · subst e
      simp only [if_pos] at h5
      rw [Nat.beq_refl]; exact h5
    · simp only [if_neg e] at h5
      rw [beq_ne e]; exact h5
/-- A loop: what is asked at its head, with a measure. -/
theorem W.loop {α : Type} {rd : Option Nat} {b : Code} {Q : Post} (I : α → Kn → St → Prop) (μ : α → Nat)
    (hb : ∀ x l S, I x l S → W E N rd b l S fun e l' S' => match e with
      | .normal => ∃ y l'', I y l'' S' ∧ (∀ p ∈ l'', lk l' p.1 = some p.2) ∧ μ y < μ x
      | e => Q e l' S') : ∀ x l S, I x l S → W E N rd (.loop b) l S Q := by
  have key : ∀ k x l S, μ x ≤ k → I x l S → W E N rd (.loop b) l S Q := by
    intro k
    induction k with
    | zero =>
      intro x l S hx hI T hN hT hl
      obtain ⟨n, r, h1, l', h2, h3, h4, h5⟩ := hb x l S hI T hN hT hl
      cases hr : r.ex with
      | normal => rw [hr] at h5; obtain ⟨y, _, _, _, h6⟩ := h5; omega
      | exit id =>
        rw [hr] at h5
        refine ⟨n + 1, r, fun m hm => ?_, l', h2, h3, h4, by rw [hr]; exact h5⟩
        obtain ⟨k, rfl, hk⟩ := le_succ_ex hm
        show ob ((run E (k + 1)).code b rd T S) _ = _
        rw [h1 _ (by omega)]
        show onNormal r _ = _
        unfold onNormal; rw [hr]
      | ret =>
        rw [hr] at h5
        refine ⟨n + 1, r, fun m hm => ?_, l', h2, h3, h4, by rw [hr]; exact h5⟩
        obtain ⟨k, rfl, hk⟩ := le_succ_ex hm
        show ob ((run E (k + 1)).code b rd T S) _ = _
        rw [h1 _ (by omega)]
        show onNormal r _ = _
        unfold onNormal; rw [hr]
    | succ k ih =>
      intro x l S hx hI T hN hT hl
      obtain ⟨n, r, h1, l', h2, h3, h4, h5⟩ := hb x l S hI T hN hT hl
      cases hr : r.ex with
      | normal =>
        rw [hr] at h5
        obtain ⟨y, l'', h6, h7, h8⟩ := h5
        obtain ⟨n2, r2, h9, h10⟩ := ih y l'' r.S (by omega) h6 r.T h2 (h3.weak h7) h4
        refine ⟨n + n2 + 1, r2, fun m hm => ?_, h10⟩
        obtain ⟨k, rfl, hk⟩ := le_succ_ex hm
        show ob ((run E (k + 1)).code b rd T S) _ = _
        rw [h1 _ (by omega)]
        show onNormal r _ = _
        unfold onNormal; rw [hr]
        exact h9 _ (by omega)
      | exit id =>
        rw [hr] at h5
        refine ⟨n + 1, r, fun m hm => ?_, l', h2, h3, h4, by rw [hr]; exact h5⟩
        obtain ⟨k, rfl, hk⟩ := le_succ_ex hm
        show ob ((run E (k + 1)).code b rd T S) _ = _
        rw [h1 _ (by omega)]
        show onNormal r _ = _
        unfold onNormal; rw [hr]
      | ret =>
        rw [hr] at h5
        refine ⟨n + 1, r, fun m hm => ?_, l', h2, h3, h4, by rw [hr]; exact h5⟩
        obtain ⟨k, rfl, hk⟩ := le_succ_ex hm
        show ob ((run E (k + 1)).code b rd T S) _ = _
        rw [h1 _ (by omega)]
        show onNormal r _ = _
        unfold onNormal; rw [hr]
  exact fun x l S h => key (μ x) x l S (Nat.le_refl _) h

theorem W.region {rd : Option Nat} {id : Nat} {ops : Array Oper} {l : Kn} {S : St} {Q : Post} (h : WO E N ops ops.toList l S fun l' S' => Q .normal l' S') : W E N rd (.region id ops false) l S Q := by
  intro T hN hT hl
  obtain ⟨n, r, h1, l', h2, h3, h4, h5⟩ := h T hN hT hl
  refine ⟨n + 1, ⟨.normal, r.1, r.2⟩, fun m hm => ?_, l', h2, h3, h4, h5⟩
  obtain ⟨k, rfl, hk⟩ := le_succ_ex hm
  show ob (evSeq E (run E k).call (run E k).code ops ops.toList T S) resOf = _
  rw [h1 _ hk]; rfl
theorem WO.nil {ops : Array Oper} {l : Kn} {S : St} {Q : Kn → St → Prop} (h : Q l S) : WO E N ops [] l S Q := fun T hN hT hl =>
  ⟨0, (T, S), fun _ _ => rfl, l, hN, hT, hl, h⟩
/-- One operation, from known operands. -/
def OpIs (E : Env) (o : Op) (l : Kn) (S : St) (v : Value) (S' : St) : Prop := ∀ T, Fits l T → ∃ n, ∀ m, n ≤ m → evOp E (run E m).call (run E m).code T S o = some (v, S')
def guard1 (l : Kn) (b : Bool) : Option Nat → Option Bool
  | none => some false
  | some d => match lk l d with
    | some (.bool c) => some (c == b)
    | _ => none
noncomputable def guardOf (ops : Array Oper) (l : Kn) : Option (Nat × Bool) → Option Bool
  | none => some true
  | some g => guard1 l g.2 (ob ops.toList[g.1]? (·.dst))
theorem guardOf_some {ops : Array Oper} {l : Kn} {g : Option (Nat × Bool)} {b : Bool} (h : guardOf ops l g = some b) {T : Fr} (hT : Fits l T) : wantedL ops T g = some b := by
  cases g with
  | none => exact h
  | some g =>
    change guard1 l g.2 (ob ops.toList[g.1]? (·.dst)) = some b at h
    show wantedG ops T g = some b
    unfold wantedG
    generalize ob ops.toList[g.1]? (·.dst) = d at h
    cases d with
    | none => exact h
    | some d =>
      simp only [guard1] at h
      split at h
      · rename_i u hu
        show ob (T.t.get d) _ = _
        rw [hT d _ hu]
        exact h
      · cases h
def bind1 (d : Option Tmp) (v : Value) (l : Kn) : Kn := match d with
  | none => l
  | some d => (d, v) :: l
def dstOk (d : Option Tmp) (N : Nat) : Bool := match d with
  | none => true
  | some d => Nat.blt d N
theorem put_fits {T : Fr} {l : Kn} {d : Option Tmp} (hN : T.n = N) (hT : Fits l T) (hd : dstOk d N = true) (v : Value) : ∃ T', T.put d v = some T' ∧ T'.n = N ∧ Fits (bind1 d v l) T' := by
  cases d with
  | none => exact ⟨T, rfl, hN, hT⟩
  | some d =>
    obtain ⟨T', h1, h2, h3⟩ := hT.put (d := d) (by rw [hN]; exact hd) v
    exact ⟨T', h1, h2.trans hN, h3⟩
theorem WO.step {ops : Array Oper} {o : Oper} {rest : List Oper} {l : Kn} {S S' : St} {v : Value} {Q : Kn → St → Prop} (hg : guardOf ops l o.guard = some true) (hd : dstOk o.dst N = true) (ho : OpIs E o.op l S v S')
    (hl' : S.low ≤ S.size → S'.low ≤ S'.size) (h : WO E N ops rest (bind1 o.dst v l) S' Q) : WO E N ops (o :: rest) l S Q := by
  intro T hN hT hl
  obtain ⟨n, h1⟩ := ho T hT
  obtain ⟨T', h2, h3, h4⟩ := put_fits hN hT hd v
  obtain ⟨n2, r, h5, h6⟩ := h T' h3 h4 (hl' hl)
  refine ⟨n + n2, r, fun m hm => ?_, h6⟩
  show ob (stepL E _ _ ops o T S) _ = _
  unfold stepL
  rw [guardOf_some hg hT]
  show ob (ob (evOp E _ _ T S o.op) (putS T o.dst)) _ = _
  rw [h1 m (by omega)]
  show ob (ob (T.put o.dst v) _) _ = _
  rw [h2]
  exact h5 m (by omega)
theorem WO.drop {ops : Array Oper} {o : Oper} {rest : List Oper} {l : Kn} {S : St} {Q : Kn → St → Prop} (hg : guardOf ops l o.guard = some false) (hd : dstOk o.dst N = true)
    (h : WO E N ops rest (bind1 o.dst undef l) S Q) : WO E N ops (o :: rest) l S Q := by
  intro T hN hT hl
  obtain ⟨T', h2, h3, h4⟩ := put_fits hN hT hd undef
  obtain ⟨n2, r, h5, h6⟩ := h T' h3 h4 hl
  refine ⟨n2, r, fun m hm => ?_, h6⟩
  show ob (stepL E _ _ ops o T S) _ = _
  unfold stepL
  rw [guardOf_some hg hT]
  show ob (ob (T.put o.dst undef) _) _ = _
  rw [h2]
  exact h5 m hm
end
end Go.Proofs.YtncpeobcgmkkbaaGreat
/- The operations in the calculus. -/
namespace Go.Proofs.YtncpeobcgmkkbaaGreat

noncomputable def lvParts (l : Kn) : List (Nat × Operand) → Option (List (Nat × Value))
  | [] => some []
  | p :: ps => ob (lv l p.2) fun v => ob (lvParts l ps) fun vs => some ((p.1, v) :: vs)
theorem Fits.parts {l : Kn} {T : Fr} (h : Fits l T) : ∀ {xs : List (Nat × Operand)} {vs : List (Nat × Value)}, lvParts l xs = some vs → evParts T xs = some vs
  | [], vs, hx => by rw [lvParts] at hx; exact hx
  | x :: xs, vs, hx => by
    rw [lvParts] at hx
    obtain ⟨v, hv, h1⟩ := ob_some hx
    obtain ⟨us, hu, h2⟩ := ob_some h1
    show ob (T.ev x.2) _ = _
    rw [h.ev hv]
    show ob (evParts T xs) _ = _
    rw [h.parts hu]
    exact h2

section
variable {E : Env} {N : Nat} {l : Kn} {S S' : St} {v u : Value}
theorem OpIs.pure {o : Op} (h : ∀ T, Fits l T → ∀ cF dF, evOp E cF dF T S o = some (v, S')) : OpIs E o l S v S' := fun T hT => ⟨0, fun _ _ => h T hT _ _⟩
theorem is_move {x : Operand} (h : lv l x = some v) : OpIs E (.move x) l S v S := .pure fun T hT cF dF => by
  show keepS S (T.ev x) = _
  rw [hT.ev h]; rfl
theorem is_assign {x : Operand} (h : lv l x = some v) : OpIs E (.assign x) l S v S := .pure fun T hT cF dF => by
  show keepS S (T.ev x) = _
  rw [hT.ev h]; rfl
theorem is_pick {c a b : Operand} {t : Bool} (hc : lv l c = some (.bool t)) (ha : t = true → lv l a = some v) (hb : t = false → lv l b = some v) : OpIs E (.pick c a b) l S v S := .pure fun T hT cF dF => by
  show keepS S (ob (ob (T.ev c) boolOf) fun t => bf t (T.ev a) (T.ev b)) = _
  rw [hT.ev hc]
  show keepS S (bf t (T.ev a) (T.ev b)) = _
  cases t with
  | true => show keepS S (T.ev a) = _; rw [hT.ev (ha rfl)]; rfl
  | false => show keepS S (T.ev b) = _; rw [hT.ev (hb rfl)]; rfl
theorem is_box {t : TypeId} {x : Operand} (h : lv l x = some v) : OpIs E (.box t x) l S (ptr S.size 0) (S.new (.cells v.cells.toList t)) := .pure fun T hT cF dF => by
  show ob (T.ev x) _ = _
  rw [hT.ev h]; rfl
theorem is_alloc {t : TypeId} {zs : List Value} (h : ∃ i, E.ti.get t = some i ∧ i.zero.cells.toList = zs) : OpIs E (.alloc t) l S (ptr S.size 0) (S.new (.cells zs t)) := .pure fun T hT cF dF => by
  obtain ⟨i, hi, rfl⟩ := h
  show ob (E.ti.get t) _ = _
  rw [hi]; rfl
theorem is_load {t : TypeId} {a : Operand} {p : Addr} (ha : lv l a = some (.pointer (some p))) (h : loadVarL E t p S = some v) : OpIs E (.load t a) l S v S := .pure fun T hT cF dF => by
  show keepS S (ob (ob (T.ev a) addrOf) fun p => loadVarL E t p S) = _
  rw [hT.ev ha]
  show keepS S (loadVarL E t p S) = _
  rw [h]; rfl
theorem is_store {t : TypeId} {a x : Operand} {p : Addr} (ha : lv l a = some (.pointer (some p))) (hx : lv l x = some v) (h : storeVarL E t p v S = some S') : OpIs E (.store t a x) l S undef S' := .pure fun T hT cF dF => by
  show ob (ob (T.ev a) addrOf) _ = _
  rw [hT.ev ha]
  show ob (T.ev x) _ = _
  rw [hT.ev hx]
  show ob (storeVarL E t p v S) _ = _
  rw [h]; rfl
theorem is_bin {op : BinOp} {t : TypeId} {x y : Operand} {g : TypeId} {a b : Value} (ha : lv l x = some a) (hb : lv l y = some b) (h : binL E op t a b = some v) : OpIs E (.binOp op t x y g) l S v S := .pure fun T hT cF dF => by
  show keepS S (ob (T.ev x) fun a => ob (T.ev y) fun b => binL E op t a b) = _
  rw [hT.ev ha, hT.ev hb]
  show keepS S (binL E op t a b) = _
  rw [h]; rfl
theorem is_un {op : UnOp} {t : TypeId} {x : Operand} {a : Value} (ha : lv l x = some a) (h : unL op a = some v) : OpIs E (.unOp op t x) l S v S := .pure fun T hT cF dF => by
  show keepS S (ob (T.ev x) fun a => unL op a) = _
  rw [hT.ev ha]
  show keepS S (unL op a) = _
  rw [h]; rfl
theorem is_fieldAddr {t : TypeId} {x : Operand} {f : Nat} (hx : lv l x = some u) (h : fieldAddrL E t u f = some v) : OpIs E (.fieldAddr t x f) l S v S := .pure fun T hT cF dF => by
  show keepS S (ob (T.ev x) fun v => fieldAddrL E t v f) = _
  rw [hT.ev hx]
  show keepS S (fieldAddrL E t u f) = _
  rw [h]; rfl
theorem is_field {t : TypeId} {x : Operand} {f : Nat} (hx : lv l x = some u) (h : fieldL E t u f = some v) : OpIs E (.field t x f) l S v S := .pure fun T hT cF dF => by
  show keepS S (ob (T.ev x) fun v => fieldL E t v f) = _
  rw [hT.ev hx]
  show keepS S (fieldL E t u f) = _
  rw [h]; rfl
theorem is_indexAddr {t : TypeId} {x i : Operand} {k : Value} (hx : lv l x = some u) (hi : lv l i = some k) (h : indexAddrL E t u k = some v) : OpIs E (.indexAddr t x i) l S v S := .pure fun T hT cF dF => by
  show keepS S (ob (T.ev x) fun v => ob (T.ev i) fun i => indexAddrL E t v i) = _
  rw [hT.ev hx, hT.ev hi]
  show keepS S (indexAddrL E t u k) = _
  rw [h]; rfl
theorem is_index {t : TypeId} {x i : Operand} {k : Value} (hx : lv l x = some u) (hi : lv l i = some k) (h : indexL E t u k = some v) : OpIs E (.index t x i) l S v S := .pure fun T hT cF dF => by
  show keepS S (ob (T.ev x) fun v => ob (T.ev i) fun i => indexL E t v i) = _
  rw [hT.ev hx, hT.ev hi]
  show keepS S (indexL E t u k) = _
  rw [h]; rfl
theorem is_extract {x : Operand} {i : Nat} {vs : Array Value} (hx : lv l x = some (.tuple vs)) (h : vs.toList[i]? = some v) : OpIs E (.extract x i) l S v S := .pure fun T hT cF dF => by
  show keepS S (ob (T.ev x) _) = _
  rw [hT.ev hx]
  show keepS S (vs.toList[i]?) = _
  rw [h]; rfl
theorem is_makeMap {t : TypeId} : OpIs E (.makeMap t none) l S (.map (some S.size)) (S.new (.map [])) := .pure fun T hT cF dF => rfl
theorem is_makeFunc {f : FuncId} {first cap : Array Operand} {a b : List Value} (h1 : lvs l first.toList = some a) (h2 : lvs l cap.toList = some b) : OpIs E (.makeFunc (.func f) first cap) l S (.func (.func f) a.toArray b.toArray) S := .pure fun T hT cF dF => by
  show keepS S (ob (T.evs first.toList) _) = _
  rw [hT.evs h1]
  show keepS S (ob (T.evs cap.toList) _) = _
  rw [hT.evs h2]; rfl
theorem is_builtin {c : Call} {b : Builtin} {args : List Value} (hb : c.callee = .builtin b) (ha : lvs l c.args.toList = some args) (h : builtinL E b c.argTypes.toList args S = some (v, S')) : OpIs E (.call c) l S v S' := .pure fun T hT cF dF => by
  show ob (T.evs c.args.toList) _ = _
  rw [hT.evs ha, hb]
  exact h
theorem is_build {t : TypeId} {parts : Array (Nat × Operand)} {ps : List (Nat × Value)} {i : LTy} {fs : Array Field} {c : List Value} (hi : E.ti.get t = some i) (hd : i.desc = .struct fs) (hp : lvParts l parts.toList = some ps)
    (h : fillL (placesL E fs) i.zero.cells.toList ps = some c) : OpIs E (.build t parts) l S (.agg c.toArray) S := .pure fun T hT cF dF => by
  show keepS S (ob (E.ti.get t) fun i => ob (evParts T parts.toList) _) = _
  rw [hi]
  show keepS S (ob (evParts T parts.toList) _) = _
  rw [hT.parts hp, hd]
  show keepS S (ob (fillL (placesL E fs) i.zero.cells.toList ps) _) = _
  rw [h]; rfl
theorem is_buildSlice {t elem : TypeId} {len : Nat} {parts : Array (Nat × Operand)} {ps : List (Nat × Value)} {i e : LTy} {c : List Value} (hi : E.ti.get t = some i) (hd : sliceD i.desc = some elem) (he : E.ti.get elem = some e) (hp : lvParts l parts.toList = some ps)
    (hg : (Nat.ble (len * e.size) 16777216 && (Nat.blt 0 e.size && Nat.beq e.zero.cells.size e.size)) = true)
    (h : fillL (fun i => some (i * e.size, e.size)) (zeros e.zero.cells.toList len) ps = some c) : OpIs E (.buildSlice t len parts) l S (.slice (some ⟨S.size, 0, none⟩) len len) (S.new (.cells c elem)) := .pure fun T hT cF dF => by
  show ob (E.ti.get t) (fun i => ob (sliceD i.desc) fun elem => ob (evParts T parts.toList) fun ps => ob (E.ti.get elem) fun e => _) = _
  rw [hi]
  show ob (sliceD i.desc) (fun elem => ob (evParts T parts.toList) fun ps => ob (E.ti.get elem) fun e => _) = _
  rw [hd]
  show ob (evParts T parts.toList) (fun ps => ob (E.ti.get elem) fun e => _) = _
  rw [hT.parts hp]
  show ob (E.ti.get elem) _ = _
  rw [he]
  show gd _ (ob (fillL _ (zeros e.zero.cells.toList len) ps) _) = _
  rw [hg, h]; rfl

/-- A call of a function of the program. -/
theorem WO.call {ops : Array Oper} {o : Oper} {rest : List Oper} {Q : Kn → St → Prop} {c : Call} {f : Operand} {g : FuncId} {first cap : Array Value} {args : List Value} {R : Value → St → Prop}
    (hop : o.op = .call c) (hc : c.callee = .value f) (hf : lv l f = some (.func (.func g) first cap)) (ha : lvs l c.args.toList = some args) (hg : guardOf ops l o.guard = some true) (hd : dstOk o.dst N = true)
    (hR : Ca E g (first.toList ++ (args ++ cap.toList)) S R) (h : ∀ v S', R v S' → WO E N ops rest (bind1 o.dst v l) S' Q) : WO E N ops (o :: rest) l S Q := by
  intro T hN hT hl
  obtain ⟨n, v, S', h1, h2, h3⟩ := hR hl
  obtain ⟨T', h4, h5, h6⟩ := put_fits hN hT hd v
  obtain ⟨n2, r, h7, h8⟩ := h v S' h3 T' h5 h6 h2
  refine ⟨n + n2, r, fun m hm => ?_, h8⟩
  show ob (stepL E _ _ ops o T S) _ = _
  unfold stepL
  rw [guardOf_some hg hT, hop]
  have : evOp E (run E m).call (run E m).code T S (.call c) = some (v, S') := by
    show ob (T.evs c.args.toList) _ = _
    rw [hT.evs ha, hc]
    show ob (T.ev f) _ = _
    rw [hT.ev hf]
    exact h1 m (by omega)
  show ob (ob (evOp E _ _ T S (.call c)) (putS T o.dst)) _ = _
  rw [this]
  show ob (ob (T.put o.dst v) _) _ = _
  rw [h4]
  exact h7 m (by omega)

/-- The arguments as a frame. -/
def argKn : List Value → Nat → Kn
  | [], _ => []
  | v :: vs, i => (i, v) :: argKn vs (i + 1)
theorem argKn_fits : ∀ (vs : List Value) (i : Nat) (t : Tr Value) (n : Nat), Fits (argKn vs i) ⟨n, setAll vs i t⟩
  | [], i, t, n, k, v, h => by cases h
  | u :: vs, i, t, n, k, v, h => by
    have hset : setAll (u :: vs) i t = setAll vs (i + 1) (t.set i u) := rfl
    have hkeep : ∀ (vs : List Value) (i : Nat) (t : Tr Value) (k : Nat), k < i → (setAll vs i t).get k = t.get k := by
      intro vs
      induction vs with
      | nil => intro i t k _; rfl
      | cons w ws ih =>
        intro i t k hk
        show (setAll ws (i + 1) (t.set i w)).get k = _
        rw [ih _ _ _ (by omega), Tr.get_set, if_neg (by omega)]
    show (setAll (u :: vs) i t).get k = some v
    rw [hset]
    simp only [argKn, lk, Tr.beq_def] at h
    by_cases e : i = k
    · subst e
      simp only [decide_true, cond_true] at h
      rw [hkeep _ _ _ _ (by omega), Tr.get_set, if_pos rfl]; exact h
    · simp only [e, decide_false, cond_false] at h
      exact argKn_fits vs (i + 1) _ n k v h
noncomputable def resK (E : Env) (l : Kn) (S : St) : List ResultVar → Option (List Value)
  | [] => some []
  | .tmp t :: rs => ob (lk l t) fun v => ob (resK E l S rs) fun vs => some (v :: vs)
  | .cell a t :: rs => ob (ob (ob (lk l a) addrOf) fun p => loadVarL E t p S) fun v => ob (resK E l S rs) fun vs => some (v :: vs)
theorem resK_some {T : Fr} (hT : Fits l T) : ∀ {rs : List ResultVar} {vs : List Value}, resK E l S rs = some vs → resultsL E T S rs = some vs
  | [], vs, h => by rw [resK] at h; exact h
  | .tmp t :: rs, vs, h => by
    rw [resK] at h
    obtain ⟨w, hw, h1⟩ := ob_some h
    obtain ⟨ws, hws, h2⟩ := ob_some h1
    show ob (T.t.get t) _ = _
    rw [hT t w hw]
    show ob (resultsL E T S rs) _ = _
    rw [resK_some hT hws]; exact h2
  | .cell a t :: rs, vs, h => by
    rw [resK] at h
    obtain ⟨w, hw, h1⟩ := ob_some h
    obtain ⟨ws, hws, h2⟩ := ob_some h1
    obtain ⟨p, hp, h3⟩ := ob_some hw
    obtain ⟨q, hq, h4⟩ := ob_some hp
    show ob (ob (ob (T.t.get a) addrOf) fun p => loadVarL E t p S) _ = _
    rw [hT a q hq]
    show ob (ob (addrOf q) fun p => loadVarL E t p S) _ = _
    rw [h4]
    show ob (loadVarL E t p S) _ = _
    rw [h3]
    show ob (resultsL E T S rs) _ = _
    rw [resK_some hT hws]; exact h2
def notExit : LExit → Bool
  | .exit _ => false
  | _ => true
/-- A call: what its body leaves. -/
theorem Ca.of {f : FuncId} {fn : Func} {c : Code} {args : List Value} {Q : Value → St → Prop} (hh : hookL E f args = false) (hf : E.fns.get f = some fn) (hc : fn.body = some c) (ha : Nat.ble args.length fn.ntmps = true)
    (h : S.low ≤ S.size → W E fn.ntmps none c (argKn args 0) S fun e l' S' => notExit e = true ∧ ∃ vs, resK E l' S' fn.results.toList = some vs ∧ Q (oneL vs) S') : Ca E f args S Q := by
  intro hl
  obtain ⟨n, r, h1, l', h2, h3, h4, h5, vs, h6, h7⟩ := h hl ⟨fn.ntmps, setAll args 0 .nil⟩ rfl (argKn_fits _ _ _ _) hl
  refine ⟨n + 1, oneL vs, r.S, fun m hm => ?_, h4, h7⟩
  obtain ⟨k, rfl, hk⟩ := le_succ_ex hm
  show bf (hookL E f args) _ (ob (E.fns.get f) _) = _
  rw [hh]
  show ob (E.fns.get f) _ = _
  rw [hf]
  show ob fn.body _ = _
  rw [hc]
  show gd (Nat.ble args.length fn.ntmps) (ob (evCode E (run E k).call (run E k).code c none _ S) (leaveL E fn)) = _
  rw [ha]
  show ob ((run E (k + 1)).code c none _ S) (leaveL E fn) = _
  rw [h1 _ (by omega)]
  show gd (!isExit r.ex) (ob (resultsL E r.T r.S fn.results.toList) _) = _
  have : (!isExit r.ex) = true := by
    cases hx : r.ex with
    | exit id => rw [hx] at h5; cases h5
    | normal => rfl
    | ret => rfl
  rw [this, resK_some h3 h6]
  rfl
theorem Ca.hook {f : FuncId} (hk : hookL E f [] = true) : Ca E f [] S (fun v S' => v = .bool true ∧ S' = S) := fun hl =>
  ⟨1, .bool true, S, fun m hm => by
    obtain ⟨k, rfl, _⟩ := le_succ_ex hm
    show bf (hookL E f []) _ _ = _
    rw [hk]; rfl, hl, rfl, rfl⟩
end
end Go.Proofs.YtncpeobcgmkkbaaGreat
/- Drawn regions in the calculus. -/
namespace Go.Proofs.YtncpeobcgmkkbaaGreat

/-- What touches no block, whatever its operands. -/
def idle : Op → Bool
  | .load .. => false
  | .store .. => false
  | .call .. => false
  | .next .. => false
  | .slice .. => false
  | .lookup .. => false
  | .mapUpdate .. => false
  | _ => true
theorem idle_touch {o : Op} (h : idle o = true) (T : Fr) : touchL T o = some [] := by
  cases o <;> first | rfl | cases h
noncomputable def calmAt (bs : List Nat) (ops : List Oper) (i : Nat) : Bool := ops.zipIdx.all fun p => Nat.beq p.2 i || (compL bs i p.2 || idle p.1.op)
/-- What is written may be written so, whatever else comes first. -/
def GoodW (ops : List Oper) (bs : List Nat) (r0 : Nat) (q : Nat × Nat × Nat) : Prop := ∀ k o t, ops[k]? = some o → k ≠ q.1 → (idle o.op = true → t = some []) → okPair bs r0 q.1 q.2.1 q.2.2 k t = true
structure DInv (ops : List Oper) (bs : List Nat) (r0 i : Nat) (D : Dr) : Prop where
  r : D.r = r0
  recs : ∀ q ∈ D.recs, q.1 < i ∧ ∀ o, ops[q.1]? = some o → idle o.op = true → q.2 = some []
  wrs : ∀ q ∈ D.wrs, q.1 < i ∧ GoodW ops bs r0 q
theorem calm_pair {bs : List Nat} {ops : List Oper} {i k : Nat} {o : Oper} (h : calmAt bs ops i = true) (hk : ops[k]? = some o) (hne : k ≠ i) {r X m : Nat} {t : Option (List Nat)} (ht : idle o.op = true → t = some []) : okPair bs r i X m k t = true := by
  have := List.all_eq_true.1 h (o, k) (List.mk_mem_zipIdx_iff_getElem?.2 hk)
  simp only [Bool.or_eq_true] at this
  unfold okPair
  rcases this with h1 | h1 | h1
  · exact absurd (beq_eq h1) hne
  · rw [h1]; rfl
  · rw [ht h1]
    simp

section
variable {E : Env} {N : Nat} {ops : Array Oper} {bs : List Nat} {r0 : Nat}
def WD (E : Env) (N : Nat) (ops : Array Oper) (bs : List Nat) (r0 : Nat) (rest : List Oper) (i : Nat) (l : Kn) (S : St) (Q : Kn → St → Prop) : Prop := ∀ T D, T.n = N → Fits l T → S.low ≤ S.size → DInv ops.toList bs r0 i D →
  ∃ n r, (∀ m, n ≤ m → evDraw E (run E m).call (run E m).code ops bs rest i D T S = some r) ∧ ∃ l', r.1.n = N ∧ Fits l' r.1 ∧ r.2.low ≤ r.2.size ∧ Q l' r.2
theorem W.draw {rd : Option Nat} {id : Nat} {l : Kn} {S : St} {Q : Post} (h : WD E N ops (befL ops.toList []) S.size ops.toList 0 l S fun l' S' => Q .normal l' S') : W E N rd (.region id ops true) l S Q := by
  intro T hN hT hl
  obtain ⟨n, r, h1, l', h2, h3, h4, h5⟩ := h T ⟨S.size, [], [], []⟩ hN hT hl ⟨rfl, (fun q h => by cases h), (fun q h => by cases h)⟩
  refine ⟨n + 1, ⟨.normal, r.1, r.2⟩, fun m hm => ?_, l', h2, h3, h4, h5⟩
  obtain ⟨k, rfl, hk⟩ := le_succ_ex hm
  show ob (evDraw E (run E k).call (run E k).code ops (befL ops.toList []) ops.toList 0 ⟨S.size, [], [], []⟩ T S) resOf = _
  rw [h1 _ hk]; rfl
theorem WD.nil {i : Nat} {l : Kn} {S : St} {Q : Kn → St → Prop} (h : Q l S) : WD E N ops bs r0 [] i l S Q := fun T D hN hT hl _ =>
  ⟨0, (T, S), fun _ _ => rfl, l, hN, hT, hl, h⟩
/-- The state that an operation of a drawn region sees. -/
abbrev St.at0 (S : St) : St := ⟨S.heap, S.size, S.size⟩
abbrev St.back (S S1 : St) : St := ⟨S1.heap, S1.size, Nat.min S.low S1.low⟩
theorem dinv_next {i : Nat} {o : Oper} {D : Dr} {T : Fr} {size : Nat} (hi : ops.toList[i]? = some o) (hD : DInv ops.toList bs r0 i D) : DInv ops.toList bs r0 (i + 1) ⟨D.r, D.starts ++ [size], (i, touchL T o.op) :: D.recs, D.wrs⟩ := by
  refine ⟨hD.r, fun q hq => ?_, fun q hq => ⟨Nat.lt_succ_of_lt (hD.wrs q hq).1, (hD.wrs q hq).2⟩⟩
  rcases List.mem_cons.1 hq with rfl | hq
  · refine ⟨Nat.lt_succ_self _, fun o' ho' hid => ?_⟩
    rw [hi] at ho'; cases ho'
    exact idle_touch hid T
  · exact ⟨Nat.lt_succ_of_lt (hD.recs q hq).1, (hD.recs q hq).2⟩
theorem reads_ok {i : Nat} {o : Oper} {D : Dr} {T : Fr} (hi : ops.toList[i]? = some o) (hD : DInv ops.toList bs r0 i D) : (D.wrs.isEmpty || okReads bs D.r i (touchL T o.op) D.wrs) = true := by
  rw [Bool.or_eq_true]
  refine .inr (List.all_eq_true.2 fun w hw => ?_)
  obtain ⟨h1, h2⟩ := hD.wrs w hw
  rw [hD.r]
  exact h2 i o _ hi (by omega) fun h => idle_touch h T
theorem drawn_ok {i : Nat} {o : Oper} {D : Dr} {T : Fr} {size low : Nat} (hi : ops.toList[i]? = some o) (hD : DInv ops.toList bs r0 i D) (h : size ≤ low ∨ uni bs i = true) :
    drawOk bs i T size low o.op D = some ⟨D.r, D.starts ++ [size], (i, touchL T o.op) :: D.recs, D.wrs⟩ := by
  unfold drawOk
  rw [reads_ok hi hD]
  have : (Nat.ble size low || uni bs i) = true := by
    rw [Bool.or_eq_true]
    exact h.imp (fun h => Nat.ble_eq_true_of_le h) id
  rw [this]; rfl
theorem draw_calm {i : Nat} {o : Oper} {D : Dr} {T : Fr} {size low X : Nat} (hi : ops.toList[i]? = some o) (hD : DInv ops.toList bs r0 i D) (hX : storeAt T o.op = some X) (hr : X < r0) (hc : calmAt bs ops.toList i = true) :
    ∃ D', drawOk bs i T size low o.op D = some D' ∧ DInv ops.toList bs r0 (i + 1) D' ∧ D'.starts = D.starts ++ [size] := by
  unfold drawOk
  rw [reads_ok hi hD]
  cases hb : (Nat.ble size low || uni bs i) with
  | true => exact ⟨_, rfl, dinv_next hi hD, rfl⟩
  | false =>
    show ∃ D', ob (storeAt T o.op) _ = _ ∧ _
    rw [hX]
    have h1 : (Nat.blt X D.r || ((bs[i]?).getD 0).testBit (makerOf X (D.starts ++ [size]) - 1)) = true := by
      rw [Bool.or_eq_true, hD.r]
      exact .inl (by simpa using hr)
    have h2 : okWrites bs D.r i X (makerOf X (D.starts ++ [size]) - 1) D.recs = true := by
      refine List.all_eq_true.2 fun q hq => ?_
      obtain ⟨h3, h4⟩ := hD.recs q hq
      have hlt : q.1 < ops.toList.length := by
        have := (List.getElem?_eq_some_iff.1 hi).1
        omega
      have hq1 : ops.toList[q.1]? = some ops.toList[q.1] := List.getElem?_eq_getElem hlt
      exact calm_pair hc hq1 (by omega) fun h => h4 _ hq1 h
    show ∃ D', gd ((Nat.blt X D.r || ((bs[i]?).getD 0).testBit (makerOf X (D.starts ++ [size]) - 1)) && okWrites bs D.r i X (makerOf X (D.starts ++ [size]) - 1) D.recs) _ = _ ∧ _
    rw [h1, h2]
    refine ⟨_, rfl, ?_, rfl⟩
    have h5 := dinv_next (size := size) (T := T) hi hD
    refine ⟨h5.r, h5.recs, fun q hq => ?_⟩
    rcases List.mem_cons.1 hq with rfl | hq
    · exact ⟨Nat.lt_succ_self _, fun k o t hk hne ht => calm_pair hc hk hne ht⟩
    · exact h5.wrs q hq
noncomputable def calmNew (bs : List Nat) (ops : List Oper) (i m : Nat) : Bool := ops.zipIdx.all fun p => Nat.beq p.2 i || (compL bs i p.2 || (!((bs[p.2]?).getD 0).testBit m || idle p.1.op))
theorem new_pair {ops : List Oper} {i k m : Nat} {o : Oper} (h : calmNew bs ops i m = true) (hk : ops[k]? = some o) (hne : k ≠ i) {r X : Nat} (hr : r ≤ X) {t : Option (List Nat)} (ht : idle o.op = true → t = some []) : okPair bs r i X m k t = true := by
  have := List.all_eq_true.1 h (o, k) (List.mk_mem_zipIdx_iff_getElem?.2 hk)
  simp only [Bool.or_eq_true] at this
  unfold okPair
  rcases this with h1 | h1 | h1 | h1
  · exact absurd (beq_eq h1) hne
  · rw [h1]; rfl
  · rw [h1, Nat.ble_eq_true_of_le hr]; simp
  · rw [ht h1]
    simp
theorem draw_made {i m : Nat} {o : Oper} {D : Dr} {T : Fr} {size low X : Nat} (hi : ops.toList[i]? = some o) (hD : DInv ops.toList bs r0 i D) (hX : storeAt T o.op = some X) (hr : r0 ≤ X) (hm : makerOf X (D.starts ++ [size]) = m + 1) (hc : calmNew bs ops.toList i m = true) (hbi : ((bs[i]?).getD 0).testBit m = true) :
    ∃ D', drawOk bs i T size low o.op D = some D' ∧ DInv ops.toList bs r0 (i + 1) D' ∧ D'.starts = D.starts ++ [size] := by
  unfold drawOk
  rw [reads_ok hi hD]
  cases hb : (Nat.ble size low || uni bs i) with
  | true => exact ⟨_, rfl, dinv_next hi hD, rfl⟩
  | false =>
    show ∃ D', ob (storeAt T o.op) _ = _ ∧ _
    rw [hX]
    have h1 : (Nat.blt X D.r || ((bs[i]?).getD 0).testBit (makerOf X (D.starts ++ [size]) - 1)) = true := by
      rw [hm, Bool.or_eq_true]
      exact .inr hbi
    have h2 : okWrites bs D.r i X (makerOf X (D.starts ++ [size]) - 1) D.recs = true := by
      refine List.all_eq_true.2 fun q hq => ?_
      obtain ⟨h3, h4⟩ := hD.recs q hq
      have hlt : q.1 < ops.toList.length := by
        have := (List.getElem?_eq_some_iff.1 hi).1
        omega
      have hq1 : ops.toList[q.1]? = some ops.toList[q.1] := List.getElem?_eq_getElem hlt
      rw [hm]
      exact new_pair hc hq1 (by omega) (by rw [hD.r]; exact hr) fun h => h4 _ hq1 h
    show ∃ D', gd ((Nat.blt X D.r || ((bs[i]?).getD 0).testBit (makerOf X (D.starts ++ [size]) - 1)) && okWrites bs D.r i X (makerOf X (D.starts ++ [size]) - 1) D.recs) _ = _ ∧ _
    rw [h1, h2]
    refine ⟨_, rfl, ?_, rfl⟩
    have h5 := dinv_next (size := size) (T := T) hi hD
    refine ⟨h5.r, h5.recs, fun q hq => ?_⟩
    rcases List.mem_cons.1 hq with rfl | hq
    · refine ⟨Nat.lt_succ_self _, fun k o t hk hne ht => ?_⟩
      show okPair bs r0 i X (makerOf X (D.starts ++ [size]) - 1) k t = true
      rw [hm]
      exact new_pair hc hk hne hr ht
    · exact h5.wrs q hq
theorem makerOf_lt {X s : Nat} (h : X < s) : ∀ l, makerOf X (l ++ [s]) = makerOf X l
  | [] => by
    show bf (Nat.ble s X) _ 0 = 0
    cases hb : Nat.ble s X with
    | false => rfl
    | true => have := Nat.le_of_ble_eq_true hb; omega
  | b :: l => by
    show bf (Nat.ble b X) (1 + makerOf X (l ++ [s])) 0 = bf (Nat.ble b X) (1 + makerOf X l) 0
    rw [makerOf_lt h l]
theorem makerOf_all {X : Nat} : ∀ (l : List Nat), (∀ s ∈ l, s ≤ X) → makerOf X l = l.length
  | [], _ => rfl
  | b :: l, h => by
    show bf (Nat.ble b X) (1 + makerOf X l) 0 = l.length + 1
    rw [Nat.ble_eq_true_of_le (h b List.mem_cons_self), makerOf_all l fun s hs => h s (List.mem_cons_of_mem _ hs), Nat.add_comm]; rfl
theorem step_some {T : Fr} {o : Oper} {l : Kn} {S S' : St} {v : Value} (hN : T.n = N) (hT : Fits l T) (hg : guardOf ops l o.guard = some true) (hd : dstOk o.dst N = true) (ho : OpIs E o.op l S v S') :
    ∃ T' n, T'.n = N ∧ Fits (bind1 o.dst v l) T' ∧ ∀ m, n ≤ m → stepL E (run E m).call (run E m).code ops o T S = some (T', S') := by
  obtain ⟨n, h1⟩ := ho T hT
  obtain ⟨T', h2, h3, h4⟩ := put_fits hN hT hd v
  refine ⟨T', n, h3, h4, fun m hm => ?_⟩
  unfold stepL
  rw [guardOf_some hg hT]
  show ob (evOp E _ _ T S o.op) (putS T o.dst) = _
  rw [h1 m hm]
  show ob (T.put o.dst v) _ = _
  rw [h2]; rfl
theorem min_back {a b n : Nat} (h : a ≤ n) : Nat.min a (Nat.min b n) = Nat.min b a := by
  show min a (min b n) = min b a
  omega
theorem back_low {S S1 : St} (hl : S1.low ≤ S1.size) : (S.back S1).low ≤ (S.back S1).size := Nat.le_trans (Nat.min_le_right _ _) hl
/-- A step that leaves elder blocks as they are, or has its place. -/
theorem WD.step {i : Nat} {o : Oper} {rest : List Oper} {l : Kn} {S S1 : St} {v : Value} {Q : Kn → St → Prop} (hi : ops.toList[i]? = some o) (hg : guardOf ops l o.guard = some true) (hd : dstOk o.dst N = true)
    (ho : OpIs E o.op l S.at0 v S1) (hl' : S1.low ≤ S1.size) (hw : S.size ≤ S1.low ∨ uni bs i = true) (h : WD E N ops bs r0 rest (i + 1) (bind1 o.dst v l) (S.back S1) Q) : WD E N ops bs r0 (o :: rest) i l S Q := by
  intro T D hN hT hl hD
  obtain ⟨T', n, h1, h2, h3⟩ := step_some hN hT hg hd ho
  obtain ⟨n2, r, h5, h6⟩ := h T' _ h1 h2 (back_low hl') (dinv_next (T := T) (size := S.size) hi hD)
  refine ⟨n + n2, r, fun m hm => ?_, h6⟩
  show ob (stepL E _ _ ops o T S.at0) _ = _
  rw [h3 m (by omega)]
  show ob (drawOk bs i T S.size S1.low o.op D) _ = _
  rw [drawn_ok hi hD hw]
  exact h5 m (by omega)
theorem WD.keep {i : Nat} {o : Oper} {rest : List Oper} {l : Kn} {S : St} {v : Value} {Q : Kn → St → Prop} (hi : ops.toList[i]? = some o) (hg : guardOf ops l o.guard = some true) (hd : dstOk o.dst N = true)
    (ho : OpIs E o.op l S.at0 v S.at0) (h : WD E N ops bs r0 rest (i + 1) (bind1 o.dst v l) S Q) : WD E N ops bs r0 (o :: rest) i l S Q := by
  intro T D hN hT hl hD
  refine WD.step hi hg hd ho (Nat.le_refl _) (.inl (Nat.le_refl _)) ?_ T D hN hT hl hD
  have : S.back S.at0 = S := by
    cases S; simp only [St.back, St.at0, St.mk.injEq, true_and]; exact Nat.min_eq_left hl
  rw [this]; exact h
theorem WD.new {i : Nat} {o : Oper} {rest : List Oper} {l : Kn} {S : St} {v : Value} {x : LObj} {Q : Kn → St → Prop} (hi : ops.toList[i]? = some o) (hg : guardOf ops l o.guard = some true) (hd : dstOk o.dst N = true)
    (ho : OpIs E o.op l S.at0 v (S.at0.new x)) (h : WD E N ops bs r0 rest (i + 1) (bind1 o.dst v l) (S.new x) Q) : WD E N ops bs r0 (o :: rest) i l S Q := by
  intro T D hN hT hl hD
  refine WD.step hi hg hd ho (Nat.le_succ _) (.inl (Nat.le_refl _)) ?_ T D hN hT hl hD
  have : S.back (S.at0.new x) = S.new x := by
    cases S; simp only [St.back, St.at0, St.new, St.mk.injEq, true_and]; exact Nat.min_eq_left hl
  rw [this]; exact h
theorem WD.put {i : Nat} {o : Oper} {rest : List Oper} {l : Kn} {S : St} {v : Value} {b : Nat} {x : LObj} {Q : Kn → St → Prop} (hi : ops.toList[i]? = some o) (hg : guardOf ops l o.guard = some true) (hd : dstOk o.dst N = true)
    (ho : OpIs E o.op l S.at0 v (S.at0.put b x)) (hu : uni bs i = true) (h : WD E N ops bs r0 rest (i + 1) (bind1 o.dst v l) (S.put b x) Q) : WD E N ops bs r0 (o :: rest) i l S Q := by
  intro T D hN hT hl hD
  refine WD.step hi hg hd ho (Nat.min_le_right _ _) (.inr hu) ?_ T D hN hT hl hD
  have : S.back (S.at0.put b x) = S.put b x := by
    cases S; simp only [St.back, St.at0, St.put, St.mk.injEq, true_and]
    simp only at hl
    exact min_back hl
  rw [this]; exact h
/-- A store to one elder block, where what is not ordered with it touches nothing. -/
theorem WD.calm {i : Nat} {o : Oper} {rest : List Oper} {l : Kn} {S : St} {v : Value} {b : Nat} {x : LObj} {Q : Kn → St → Prop} (hi : ops.toList[i]? = some o) (hg : guardOf ops l o.guard = some true) (hd : dstOk o.dst N = true)
    (ho : OpIs E o.op l S.at0 v (S.at0.put b x)) (hs : ∀ T, Fits l T → storeAt T o.op = some b) (hr : b < r0) (hc : calmAt bs ops.toList i = true) (h : WD E N ops bs r0 rest (i + 1) (bind1 o.dst v l) (S.put b x) Q) : WD E N ops bs r0 (o :: rest) i l S Q := by
  intro T D hN hT hl hD
  obtain ⟨T', n, h1, h2, h3⟩ := step_some hN hT hg hd ho
  obtain ⟨D', h4, h5, _⟩ := draw_calm (size := S.size) (low := (S.at0.put b x).low) hi hD (hs T hT) hr hc
  have e : S.back (S.at0.put b x) = S.put b x := by
    cases S; simp only [St.back, St.at0, St.put, St.mk.injEq, true_and]
    simp only at hl
    exact min_back hl
  obtain ⟨n2, r, h6, h7⟩ := h T' D' h1 h2 (Nat.le_trans (Nat.min_le_right _ _) hl) h5
  refine ⟨n + n2, r, fun m hm => ?_, h7⟩
  show ob (stepL E _ _ ops o T S.at0) _ = _
  rw [h3 m (by omega)]
  show ob (drawOk bs i T S.size (S.at0.put b x).low o.op D) (fun D' => evDraw E _ _ ops bs rest (i + 1) D' T' (S.back (S.at0.put b x))) = _
  rw [h4, e]
  exact h6 m (by omega)
theorem WD.drop {i : Nat} {o : Oper} {rest : List Oper} {l : Kn} {S : St} {Q : Kn → St → Prop} (hi : ops.toList[i]? = some o) (hg : guardOf ops l o.guard = some false) (hd : dstOk o.dst N = true)
    (h : WD E N ops bs r0 rest (i + 1) (bind1 o.dst undef l) S Q) : WD E N ops bs r0 (o :: rest) i l S Q := by
  intro T D hN hT hl hD
  obtain ⟨T', h2, h3, h4⟩ := put_fits hN hT hd undef
  have e : S.back S.at0 = S := by
    cases S; simp only [St.back, St.at0, St.mk.injEq, true_and]; exact Nat.min_eq_left hl
  obtain ⟨n2, r, h5, h6⟩ := h T' _ h3 h4 hl (dinv_next (T := T) (size := S.size) hi hD)
  refine ⟨n2, r, fun m hm => ?_, h6⟩
  have hs : stepL E (run E m).call (run E m).code ops o T S.at0 = some (T', S.at0) := by
    unfold stepL
    rw [guardOf_some hg hT]
    show ob (T.put o.dst undef) _ = _
    rw [h2]; rfl
  show ob (stepL E _ _ ops o T S.at0) _ = _
  rw [hs]
  show ob (drawOk bs i T S.size S.size o.op D) (fun D' => evDraw E _ _ ops bs rest (i + 1) D' T' (S.back S.at0)) = _
  rw [drawn_ok hi hD (.inl (Nat.le_refl _)), e]
  exact h5 m hm
theorem WD.call {i : Nat} {o : Oper} {rest : List Oper} {l : Kn} {S : St} {Q : Kn → St → Prop} {c : Call} {f : Operand} {g : FuncId} {first cap : Array Value} {args : List Value} {R : Value → St → Prop} (hi : ops.toList[i]? = some o)
    (hop : o.op = .call c) (hc : c.callee = .value f) (hf : lv l f = some (.func (.func g) first cap)) (ha : lvs l c.args.toList = some args) (hg : guardOf ops l o.guard = some true) (hd : dstOk o.dst N = true)
    (hR : Ca E g (first.toList ++ (args ++ cap.toList)) S.at0 R) (h : ∀ v S1, R v S1 → (S.size ≤ S1.low ∨ uni bs i = true) ∧ WD E N ops bs r0 rest (i + 1) (bind1 o.dst v l) (S.back S1) Q) : WD E N ops bs r0 (o :: rest) i l S Q := by
  intro T D hN hT hl hD
  obtain ⟨n, v, S1, h1, h2, h3⟩ := hR (Nat.le_refl _)
  have ho : OpIs E (.call c) [] S.at0 v S1 → True := fun _ => trivial
  obtain ⟨T', h4, h5, h6⟩ := put_fits hN hT hd v
  obtain ⟨hw, h⟩ := h v S1 h3
  obtain ⟨n2, r, h7, h8⟩ := h T' _ h5 h6 (back_low h2) (dinv_next (T := T) (size := S.size) hi hD)
  refine ⟨n + n2, r, fun m hm => ?_, h8⟩
  have he : evOp E (run E m).call (run E m).code T S.at0 o.op = some (v, S1) := by
    rw [hop]
    show ob (T.evs c.args.toList) _ = _
    rw [hT.evs ha, hc]
    show ob (T.ev f) _ = _
    rw [hT.ev hf]
    exact h1 m (by omega)
  have hs : stepL E (run E m).call (run E m).code ops o T S.at0 = some (T', S1) := by
    unfold stepL
    rw [guardOf_some hg hT]
    show ob (evOp E _ _ T S.at0 o.op) (putS T o.dst) = _
    rw [he]
    show ob (T.put o.dst v) _ = _
    rw [h4]; rfl
  show ob (stepL E _ _ ops o T S.at0) _ = _
  rw [hs]
  show ob (drawOk bs i T S.size S1.low o.op D) _ = _
  rw [drawn_ok hi hD hw]
  exact h7 m (by omega)
end
end Go.Proofs.YtncpeobcgmkkbaaGreat
/- Helps for the calculus: zero values, arithmetic, memory that has grown. -/
namespace Go.Proofs.YtncpeobcgmkkbaaGreat
noncomputable def zeroOf (E : Env) (t : TypeId) : Option (List Value) := ob (E.ti.get t) fun i => some i.zero.cells.toList
section
variable {E : Env} {l : Kn} {S : St}
theorem is_zero {t : TypeId} {zs : List Value} (h : zeroOf E t = some zs) : OpIs E (.alloc t) l S (ptr S.size 0) (S.new (.cells zs t)) := by
  obtain ⟨i, hi, h1⟩ := ob_some h
  cases h1
  exact is_alloc ⟨i, hi, rfl⟩
theorem wrap64 {n : Int} (h1 : -9223372036854775808 ≤ n) (h2 : n < 9223372036854775808) : IntKind.i64.wrap n = n := IntWalk.i64_in _ (by omega)
variable {t : TypeId} {a b : Int}
theorem b_lss : binL E .lss t (.int .i64 a) (.int .i64 b) = some (.bool (decide (a < b))) := rfl
theorem b_leq : binL E .leq t (.int .i64 a) (.int .i64 b) = some (.bool (decide (a ≤ b))) := rfl
theorem b_gtr : binL E .gtr t (.int .i64 a) (.int .i64 b) = some (.bool (decide (a > b))) := rfl
theorem b_geq : binL E .geq t (.int .i64 a) (.int .i64 b) = some (.bool (decide (a ≥ b))) := rfl
theorem b_eql : binL E .eql t (.int .i64 a) (.int .i64 b) = some (.bool (a == b)) := rfl
theorem b_neq : binL E .neq t (.int .i64 a) (.int .i64 b) = some (.bool (!(a == b))) := rfl
theorem b_add (h1 : -9223372036854775808 ≤ a + b) (h2 : a + b < 9223372036854775808) : binL E .add t (.int .i64 a) (.int .i64 b) = some (.int .i64 (a + b)) := by
  show some (Value.int .i64 (IntKind.i64.wrap (a + b))) = _
  rw [wrap64 h1 h2]
theorem b_sub (h1 : -9223372036854775808 ≤ a - b) (h2 : a - b < 9223372036854775808) : binL E .sub t (.int .i64 a) (.int .i64 b) = some (.int .i64 (a - b)) := by
  show some (Value.int .i64 (IntKind.i64.wrap (a - b))) = _
  rw [wrap64 h1 h2]
theorem b_mul (h1 : -9223372036854775808 ≤ a * b) (h2 : a * b < 9223372036854775808) : binL E .mul t (.int .i64 a) (.int .i64 b) = some (.int .i64 (a * b)) := by
  show some (Value.int .i64 (IntKind.i64.wrap (a * b))) = _
  rw [wrap64 h1 h2]
/-- A counter's step. -/
theorem b_inc {n : Nat} (h : n < 9223372036854775807) : binL E .add t (.int .i64 (Int.ofNat n)) (.int .i64 1) = some (.int .i64 (Int.ofNat (n + 1))) := by
  show some (Value.int .i64 (IntKind.i64.wrap (Int.ofNat n + 1))) = _
  rw [wrap64 (by simp only [Int.ofNat_eq_natCast]; omega) (by simp only [Int.ofNat_eq_natCast]; omega)]
  rfl
end

/-- What stood in S stands in S1; nothing of it has been written to. -/
structure Grow (S S1 : St) : Prop where
  size : S.size ≤ S1.size
  old : ∀ b, b < S.size → S1.heap.get b = S.heap.get b
  low : S1.low = S.low
theorem Grow.refl (S : St) : Grow S S := ⟨Nat.le_refl _, fun _ _ => rfl, rfl⟩
theorem Grow.trans {S S1 S2 : St} (h : Grow S S1) (k : Grow S1 S2) : Grow S S2 :=
  ⟨Nat.le_trans h.size k.size, fun b hb => (k.old b (Nat.lt_of_lt_of_le hb h.size)).trans (h.old b hb), k.low.trans h.low⟩
theorem Grow.new {S S1 : St} (h : Grow S S1) (o : LObj) : Grow S (S1.new o) :=
  ⟨Nat.le_succ_of_le h.size, fun b hb => by rw [get_new, if_neg (by have := h.size; omega)]; exact h.old b hb, h.low⟩
/-- A write to a block that the call made. -/
theorem Grow.put {S S1 : St} (h : Grow S S1) {b : Nat} (hl : S.low ≤ S.size) (hb : S.size ≤ b) (o : LObj) : Grow S (S1.put b o) :=
  ⟨h.size, fun c hc => by rw [get_put, if_neg (by omega)]; exact h.old c hc, by
    show Nat.min b S1.low = S.low
    rw [h.low]; show min b S.low = S.low; omega⟩
theorem Grow.cells {S S1 : St} (h : Grow S S1) {b : Nat} {c : List Value × TypeId} (hb : b < S.size) (hc : S.cells b = some c) : S1.cells b = some c := by
  unfold St.cells at *; rw [h.old b hb]; exact hc
theorem cells_new {S : St} {c : List Value} {t : TypeId} : (S.new (.cells c t)).cells S.size = some (c, t) := by
  unfold St.cells; rw [get_new, if_pos rfl]; rfl
theorem cells_new_ne {S : St} {o : LObj} {b : Nat} (hb : b ≠ S.size) : (S.new o).cells b = S.cells b := by
  unfold St.cells; rw [get_new, if_neg hb]
theorem cells_put {S : St} {b : Nat} {c : List Value} {t : TypeId} : (S.put b (.cells c t)).cells b = some (c, t) := by
  unfold St.cells; rw [get_put, if_pos rfl]; rfl
theorem cells_put_ne {S : St} {o : LObj} {b d : Nat} (hb : d ≠ b) : (S.put b o).cells d = S.cells d := by
  unfold St.cells; rw [get_put, if_neg hb]
end Go.Proofs.YtncpeobcgmkkbaaGreat
/- A range over a number of elements, as the translator writes it. -/
namespace Go.Proofs.YtncpeobcgmkkbaaGreat
section
variable {E : Env} {N : Nat}
theorem wk_nil {l : Kn} : ∀ p ∈ ([] : Kn), lk l p.1 = some p.2 := fun p h => by cases h
theorem wk_cons {l l' : Kn} {a : Nat} {v : Value} (h : lk l a = some v) (hl : ∀ p ∈ l', lk l p.1 = some p.2) : ∀ p ∈ (a, v) :: l', lk l p.1 = some p.2 := fun p hp => by
  rcases List.mem_cons.1 hp with rfl | hp
  · exact h
  · exact hl p hp
/-- What is asked of a round's end. -/
def roundPost (ti tn ts idb n k : Nat) (I : Nat → Kn → St → Prop) (Q : Post) : Post := fun e l' S' => match e with
  | .normal => lk l' ti = some (.int .i64 (Int.ofNat k)) ∧ lk l' tn = some (.int .i64 (Int.ofNat n)) ∧ ∃ l'', I (k + 1) l'' S' ∧ (l''.all fun p => !Nat.beq ti p.1 && !Nat.beq ts p.1) = true ∧ ∀ p ∈ l'', lk l' p.1 = some p.2
  | .exit j => if j = idb then Q .normal l' S' else Q (.exit j) l' S'
  | .ret => Q .ret l' S'
theorem W.range {rd : Option Nat} {ti tn tc ts idb id2 r1 r2 : Nat} {t1 t2 t3 t4 ty1 ty2 ty3 : TypeId} {p1 p2 p3 : String} {a1 a2 a3 : Array Edge} {body : Code} {l : Kn} {S : St} {Q : Post} (n : Nat) (hn : n < 9223372036854775807) (I : Nat → Kn → St → Prop)
    (hN : (Nat.blt tc N && (Nat.blt ts N && Nat.blt ti N)) = true) (hne : (!Nat.beq tc ti && (!Nat.beq tc tn && (!Nat.beq ts ti && (!Nat.beq ts tn && !Nat.beq ti tn)))) = true)
    (hi : lk l ti = some (.int .i64 (Int.ofNat 0))) (hl : lk l tn = some (.int .i64 (Int.ofNat n))) (h0 : ∃ l0, I 0 l0 S ∧ ∀ p ∈ l0, lk l p.1 = some p.2)
    (hb : ∀ k l S, k < n → I k l S → W E N rd (.block id2 body) ((tc, .bool true) :: (ti, .int .i64 (Int.ofNat k)) :: (tn, .int .i64 (Int.ofNat n)) :: l) S (roundPost ti tn ts idb n k I Q))
    (he : ∀ l S, I n l S → Q .normal ((tc, .bool false) :: (ti, .int .i64 (Int.ofNat n)) :: (tn, .int .i64 (Int.ofNat n)) :: l) S) :
    W E N rd (.block idb (.loop (.seq (.region r1 #[⟨some tc, .binOp .lss t1 (.tmp ti) (.tmp tn) t2, ty1, p1, a1, none⟩] false)
      (.seq (.cond (.tmp tc) .skip (.exit idb)) (.seq (.block id2 body) (.region r2 #[⟨some ts, .binOp .add t3 (.tmp ti) (.const (.int .i64 1)) t4, ty2, p2, a2, none⟩, ⟨some ti, .move (.tmp ts), ty3, p3, a3, none⟩] false)))))) l S Q := by
  simp only [Bool.and_eq_true, Bool.not_eq_true'] at hN hne
  obtain ⟨n1, n2, n3⟩ := hN
  obtain ⟨m1, m2, m3, m4, m5⟩ := hne
  obtain ⟨l0, hI0, hw0⟩ := h0
  have hlk : ∀ (a b : Nat) (v : Value) (l : Kn), Nat.beq a b = false → lk ((a, v) :: l) b = lk l b := fun a b v l h => by
    show (bif Nat.beq a b then some v else lk l b) = _
    rw [h]; rfl
  have hlk0 : ∀ (a : Nat) (v : Value) (l : Kn), lk ((a, v) :: l) a = some v := fun a v l => by
    show (bif Nat.beq a a then some v else lk l a) = _
    rw [Nat.beq_refl]; rfl
  refine W.block (W.weak (l' := (ti, .int .i64 (Int.ofNat 0)) :: (tn, .int .i64 (Int.ofNat n)) :: l0) ?_ ?_)
  · refine W.loop (α := Nat × Kn) (fun x l S' => x.1 ≤ n ∧ I x.1 x.2 S' ∧ l = (ti, .int .i64 (Int.ofNat x.1)) :: (tn, .int .i64 (Int.ofNat n)) :: x.2) (fun x => n - x.1) ?_ (0, l0) _ _ ⟨Nat.zero_le _, hI0, rfl⟩
    rintro ⟨k, lx⟩ l S' ⟨hk, hI, rfl⟩
    simp only at hk hI
    have hcmp : decide (Int.ofNat k < Int.ofNat n) = decide (k < n) := by
      rw [decide_eq_decide]; simp only [Int.ofNat_eq_natCast]; omega
    refine W.seq (W.region (WO.step rfl n1 (is_bin (a := .int .i64 (Int.ofNat k)) (b := .int .i64 (Int.ofNat n)) (hlk0 _ _ _) (by show lk _ tn = _; rw [hlk _ _ _ _ m5]; exact hlk0 _ _ _) b_lss) (fun h => h) (WO.nil ?_)))
    show W E N rd _ ((tc, .bool (decide (Int.ofNat k < Int.ofNat n))) :: _) S' _
    rw [hcmp]
    refine W.seq (W.cond (t := decide (k < n)) (hlk0 _ _ _) (fun hc => W.skip ?_) (fun hc => W.exit ?_))
    · have hkn : k < n := of_decide_eq_true hc
      rw [hc]
      refine W.seq ((hb k lx S' hkn hI).mono ?_)
      intro e l' S1 hp
      cases e with
      | exit j => exact hp
      | ret => exact hp
      | normal =>
        obtain ⟨h1, h2, l'', h3, h5, h4⟩ := hp
        refine W.region (WO.step rfl n2 (is_bin h1 rfl (b_inc (by omega))) (fun h => h) ?_)
        refine WO.step (o := ⟨some ti, .move (.tmp ts), ty3, p3, a3, none⟩) rfl n3 (is_move (hlk0 _ _ _)) (fun h => h) (WO.nil ?_)
        refine ⟨(k + 1, l''), _, ⟨hkn, h3, rfl⟩, ?_, by simp only; omega⟩
        refine wk_cons (hlk0 _ _ _) (wk_cons ?_ fun p hp => ?_)
        · show lk ((ti, _) :: (ts, _) :: l') tn = _
          rw [hlk _ _ _ _ m5, hlk _ _ _ _ m4]; exact h2
        · have := List.all_eq_true.1 h5 p hp
          simp only [Bool.and_eq_true, Bool.not_eq_true'] at this
          show lk ((ti, _) :: (ts, _) :: l') p.1 = _
          rw [hlk _ _ _ _ this.1, hlk _ _ _ _ this.2]; exact h4 p hp
    · rw [hc]
      show if idb = idb then _ else _
      rw [if_pos rfl]
      have : k = n := by
        have := of_decide_eq_false hc
        omega
      subst this
      exact he lx S' hI
  · intro p hp
    rcases List.mem_cons.1 hp with rfl | hp
    · exact hi
    · rcases List.mem_cons.1 hp with rfl | hp
      · exact hl
      · exact hw0 p hp
end
/-- A row of n elements of sz cells: what the k-th one's cells are. -/
def RowS (S : St) (v : Value) (t : TypeId) (sz n : Nat) (cell : Nat → List Value) : Prop := ∃ base cap, v = .slice base n cap ∧ ∀ k, k < n → ∃ b o sp cs, base = some ⟨b, o, sp⟩ ∧ b < S.size ∧ S.cells b = some (cs, t) ∧ cut cs (o + k * sz) sz = some (cell k)
theorem RowS.grow {S S1 : St} {v : Value} {t : TypeId} {sz n : Nat} {cell : Nat → List Value} (h : RowS S v t sz n cell) (hG : Grow S S1) : RowS S1 v t sz n cell := by
  obtain ⟨base, cap, h1, h2⟩ := h
  refine ⟨base, cap, h1, fun k hk => ?_⟩
  obtain ⟨b, o, sp, cs, h3, h4, h5, h6⟩ := h2 k hk
  exact ⟨b, o, sp, cs, h3, Nat.lt_of_lt_of_le h4 hG.size, hG.cells h4 h5, h6⟩
theorem cut_get {cs r : List Value} {o n i : Nat} (h : cut cs o n = some r) (hi : i < n) : cs[o + i]? = r[i]? := by
  unfold cut at h
  obtain ⟨_, h1⟩ := gd_some h
  cases h1
  rw [List.getElem?_take, if_pos hi, List.getElem?_drop]
theorem ix_ok {n i : Nat} {v : Value} (h : i < n) : gd (Nat.blt i n) (some v) = some v := by
  rw [show Nat.blt i n = true by simpa using h]; rfl
theorem ob_cells {α : Type} {S : St} {b : Nat} {c : List Value × TypeId} {f : List Value × TypeId → Option α} (h : S.cells b = some c) : ob (S.cells b) f = f c := by rw [h]; rfl
/-- A store into a block that is known. -/
theorem store_at {S : St} {b o n : Nat} {cs cs' vs : List Value} {t : TypeId} (h : S.cells b = some (cs, t)) (hn : vs.length = n) (hs : vs.all scalar = true) (hp : paste cs o vs = some cs') : gd (Nat.beq vs.toArray.size n) (S.store ⟨b, o, none⟩ vs) = some (S.put b (.cells cs' t)) := by
  rw [show Nat.beq vs.toArray.size n = true by simp [hn]]
  show ob (S.cells b) _ = _
  rw [h]
  show gd (vs.all scalar) (ob (paste cs o vs) _) = _
  rw [hs, hp]; rfl
theorem paste_all {cs vs : List Value} (h : cs.length = vs.length) : paste cs 0 vs = some vs := by
  unfold paste
  rw [show Nat.ble (Nat.add 0 vs.length) cs.length = true by rw [h]; simp]
  show some (cs.take 0 ++ vs ++ cs.drop (Nat.add 0 vs.length)) = some vs
  rw [show Nat.add 0 vs.length = cs.length by rw [h]; simp, List.drop_length]
  simp
theorem store_new {S : St} {n : Nat} {z vs : List Value} {t : TypeId} (hn : vs.length = n) (hz : z.length = n) (hs : vs.all scalar = true) : gd (Nat.beq vs.toArray.size n) ((S.new (.cells z t)).store ⟨S.size, 0, none⟩ vs) = some ((S.new (.cells z t)).put S.size (.cells vs t)) :=
  store_at cells_new hn hs (paste_all (hz.trans hn.symm))
end Go.Proofs.YtncpeobcgmkkbaaGreat
/- Values and memory as a walk sees them: frozen lists by value, the call's own blocks by name. -/
namespace Go.Proofs.YtncpeobcgmkkbaaGreat

/-- A value that leads to no block that may still be written to. -/
inductive PV where
  | int (k : IntKind) (n : Int)
  | bool (b : Bool)
  | str (s : ByteArray)
  | lst (ty : TypeId) (nil : Bool) (n : Nat) (f : Nat → List PV)
  | fp (cs : List PV) (off : Nat)
  | emp
  | nilp
  | nilf
  | nilm
variable {E : Env}
mutual
inductive PR (E : Env) (S : St) (Z : Nat → Prop) : PV → Value → Prop
  | int (k : IntKind) (n : Int) : PR E S Z (.int k n) (.int k n)
  | bool (b : Bool) : PR E S Z (.bool b) (.bool b)
  | str (s : ByteArray) : PR E S Z (.str s) (.string s)
  | nil (ty : TypeId) (f : Nat → List PV) : PR E S Z (.lst ty true 0 f) (.slice none 0 0)
  | lst {ty : TypeId} {n b o cap sz : Nat} {f : Nat → List PV} {sp : Option Nat} {cs : List Value} {t : TypeId} (g : Nat → List Value) (hz : Z b) (hc : rdc E S b = some (cs, t)) (hcap : n ≤ cap) (hoff : o ≤ cs.length) (hty : sp = none ∨ (t = ty ∧ E.rom.get b = none))
      (hcut : ∀ k, k < n → cut cs (o + k * sz) sz = some (g k)) (h : ∀ k, k < n → PRs E S Z (f k) (g k)) : PR E S Z (.lst ty false n f) (.slice (some ⟨b, o, sp⟩) n cap)
  | fp {ps : List PV} {off b o : Nat} {cs : List Value} {t : TypeId} {vs : List Value} (hz : Z b) (hc : rdc E S b = some (cs, t)) (hcut : cut cs o ps.length = some vs) (h : PRs E S Z ps vs) : PR E S Z (.fp ps off) (.pointer (some ⟨b, o + off, none⟩))
  | emp {b o : Nat} {cs : List Value} {t : TypeId} (hz : Z b) (hc : rdc E S b = some (cs, t)) (ho : o ≤ cs.length) : PR E S Z .emp (.slice (some ⟨b, o, none⟩) 0 0)
  | nilp : PR E S Z .nilp (.pointer none)
  | nilf : PR E S Z .nilf .nilFunc
  | nilm : PR E S Z .nilm (.map none)
inductive PRs (E : Env) (S : St) (Z : Nat → Prop) : List PV → List Value → Prop
  | nil : PRs E S Z [] []
  | cons {p : PV} {v : Value} {ps : List PV} {vs : List Value} (h : PR E S Z p v) (hl : PRs E S Z ps vs) : PRs E S Z (p :: ps) (v :: vs)
end
/-- What is frozen stays so. -/
def ZLe (E : Env) (S : St) (Z : Nat → Prop) (S' : St) (Z' : Nat → Prop) : Prop := ∀ b, Z b → Z' b ∧ rdc E S' b = rdc E S b
mutual
theorem PR.mono {S S' : St} {Z Z' : Nat → Prop} (hz : ZLe E S Z S' Z') {p : PV} {v : Value} : PR E S Z p v → PR E S' Z' p v
  | .int k n => .int k n
  | .bool b => .bool b
  | .str s => .str s
  | .nil ty f => .nil ty f
  | .lst g h1 h2 h3 h0 h4 h5 h6 => .lst g (hz _ h1).1 ((hz _ h1).2.trans h2) h3 h0 h4 h5 (fun k hk => (h6 k hk).mono hz)
  | .fp h1 h2 h3 h4 => .fp (hz _ h1).1 ((hz _ h1).2.trans h2) h3 (h4.mono hz)
  | .emp h1 h2 h3 => .emp (hz _ h1).1 ((hz _ h1).2.trans h2) h3
  | .nilp => .nilp
  | .nilf => .nilf
  | .nilm => .nilm
theorem PRs.mono {S S' : St} {Z Z' : Nat → Prop} (hz : ZLe E S Z S' Z') {p : List PV} {v : List Value} : PRs E S Z p v → PRs E S' Z' p v
  | .nil => .nil
  | .cons h hl => .cons (h.mono hz) (hl.mono hz)
end

inductive AV where
  | p (x : PV)
  | agg (cs : List AV)
  | ref (i off : Nat)
  | el (i sz k off : Nat)
  | sl (i sz off n cap : Nat) (ex : Nat)
  | fn (f : FuncId) (first cap : List AV)
  | map (i : Nat)
  | tup (vs : List AV)
  | yld (l : Nat)
  | acc (nb : Bool) (i sz n : Nat)
  | lit (b : Bool)
  | junk
abbrev Nm := Nat → Option Nat
mutual
inductive VR (E : Env) (S : St) (Z : Nat → Prop) (j : Nm) : AV → Value → Prop
  | p {x : PV} {v : Value} (h : PR E S Z x v) : VR E S Z j (.p x) v
  | agg {cs : List AV} {vs : Array Value} (hs : vs.toList.all scalar = true) (h : VRs E S Z j cs vs.toList) : VR E S Z j (.agg cs) (.agg vs)
  | ref {i off b : Nat} (h : j i = some b) : VR E S Z j (.ref i off) (.pointer (some ⟨b, off, none⟩))
  | el {i sz k off b : Nat} (h : j i = some b) : VR E S Z j (.el i sz k off) (.pointer (some ⟨b, k * sz + off, none⟩))
  | sl {i sz off n cap b : Nat} {ex : Nat} (h : j i = some b) : VR E S Z j (.sl i sz off n cap ex) (.slice (some ⟨b, off * sz, bif Nat.beq ex 0 then some 0 else none⟩) n cap)
  | fn {f : FuncId} {first cap : List AV} {a b : Array Value} (ha : VRs E S Z j first a.toList) (hb : VRs E S Z j cap b.toList) : VR E S Z j (.fn f first cap) (.func (.func f) a b)
  | map {i b : Nat} (h : j i = some b) : VR E S Z j (.map i) (.map (some b))
  | tup {vs : List AV} {ws : Array Value} (h : VRs E S Z j vs ws.toList) : VR E S Z j (.tup vs) (.tuple ws)
  | yld {i b : Nat} (h : j i = some b) : VR E S Z j (.yld i) (.func (.yield b) #[] #[])
  | accN {i sz : Nat} : VR E S Z j (.acc true i sz 0) (.slice none 0 0)
  | accE {i sz b o : Nat} {cs : List Value} {t : TypeId} (hz : Z b) (hc : rdc E S b = some (cs, t)) (ho : o ≤ cs.length) : VR E S Z j (.acc false i sz 0) (.slice (some ⟨b, o, none⟩) 0 0)
  | accC {nb : Bool} {i sz n b : Nat} (h : j i = some b) : VR E S Z j (.acc nb i sz (n + 1)) (.slice (some ⟨b, 0, some 0⟩) (n + 1) (n + 1))
  | lit (b : Bool) : VR E S Z j (.lit b) (.bool b)
  | junk (v : Value) : VR E S Z j .junk v
inductive VRs (E : Env) (S : St) (Z : Nat → Prop) (j : Nm) : List AV → List Value → Prop
  | nil : VRs E S Z j [] []
  | cons {a : AV} {v : Value} {as : List AV} {vs : List Value} (h : VR E S Z j a v) (hl : VRs E S Z j as vs) : VRs E S Z j (a :: as) (v :: vs)
end
/-- Does a value lead to blocks with good names only? (By the recursor: it reduces well on values that are not yet worked out.) -/
noncomputable def AV.only (g : Nat → Bool) (a : AV) : Bool := AV.rec (motive_1 := fun _ => Bool) (motive_2 := fun _ => Bool)
  (fun _ => true) (fun _ ih => ih) (fun i _ => g i) (fun i _ _ _ => g i) (fun i _ _ _ _ _ => g i) (fun _ _ _ ia ib => ia && ib) (fun i => g i) (fun _ ih => ih) (fun i => g i) (fun _ i _ _ => g i) (fun _ => true) true true (fun _ _ ia il => ia && il) a
noncomputable def AV.onlys (g : Nat → Bool) (l : List AV) : Bool := AV.rec_1 (motive_1 := fun _ => Bool) (motive_2 := fun _ => Bool)
  (fun _ => true) (fun _ ih => ih) (fun i _ => g i) (fun i _ _ _ => g i) (fun i _ _ _ _ _ => g i) (fun _ _ _ ia ib => ia && ib) (fun i => g i) (fun _ ih => ih) (fun i => g i) (fun _ i _ _ => g i) (fun _ => true) true true (fun _ _ ia il => ia && il) l
theorem AV.only_fn (g : Nat → Bool) (f : FuncId) (a b : List AV) : AV.only g (.fn f a b) = (AV.onlys g a && AV.onlys g b) := rfl
theorem AV.onlys_cons (g : Nat → Bool) (a : AV) (l : List AV) : AV.onlys g (a :: l) = (a.only g && AV.onlys g l) := rfl
/-- Names changed. -/
noncomputable def AV.ren (r : Nat → Nat) (a : AV) : AV := AV.rec (motive_1 := fun _ => AV) (motive_2 := fun _ => List AV)
  (fun x => .p x) (fun _ ih => .agg ih) (fun i o => .ref (r i) o) (fun i s k o => .el (r i) s k o) (fun i s o n c e => .sl (r i) s o n c e) (fun f _ _ ia ib => .fn f ia ib) (fun i => .map (r i)) (fun _ ih => .tup ih) (fun i => .yld (r i)) (fun nb i s n => .acc nb (r i) s n) (fun b => .lit b) .junk [] (fun _ _ ia il => ia :: il) a
noncomputable def AV.rens (r : Nat → Nat) (l : List AV) : List AV := AV.rec_1 (motive_1 := fun _ => AV) (motive_2 := fun _ => List AV)
  (fun x => .p x) (fun _ ih => .agg ih) (fun i o => .ref (r i) o) (fun i s k o => .el (r i) s k o) (fun i s o n c e => .sl (r i) s o n c e) (fun f _ _ ia ib => .fn f ia ib) (fun i => .map (r i)) (fun _ ih => .tup ih) (fun i => .yld (r i)) (fun nb i s n => .acc nb (r i) s n) (fun b => .lit b) .junk [] (fun _ _ ia il => ia :: il) l
theorem AV.ren_agg (r : Nat → Nat) (l : List AV) : AV.ren r (.agg l) = .agg (AV.rens r l) := rfl
theorem AV.ren_tup (r : Nat → Nat) (l : List AV) : AV.ren r (.tup l) = .tup (AV.rens r l) := rfl
theorem AV.ren_fn (r : Nat → Nat) (f : FuncId) (a b : List AV) : AV.ren r (.fn f a b) = .fn f (AV.rens r a) (AV.rens r b) := rfl
theorem AV.rens_cons (r : Nat → Nat) (a : AV) (l : List AV) : AV.rens r (a :: l) = a.ren r :: AV.rens r l := rfl
mutual
theorem VR.ren {S S' : St} {Z Z' : Nat → Prop} {j j' : Nm} {g : Nat → Bool} {r : Nat → Nat} (hz : ZLe E S Z S' Z') (hj : ∀ i b, g i = true → j i = some b → j' (r i) = some b) {a : AV} {v : Value} : VR E S Z j a v → a.only g = true → VR E S' Z' j' (a.ren r) v
  | .p h, _ => .p (h.mono hz)
  | .agg hs h, ho => .agg hs (h.ren hz hj ho)
  | .ref h, ho => .ref (hj _ _ ho h)
  | .el h, ho => .el (hj _ _ ho h)
  | .sl h, ho => .sl (hj _ _ ho h)
  | .fn ha hb, ho => .fn (ha.ren hz hj (Bool.and_eq_true_iff.1 ho).1) (hb.ren hz hj (Bool.and_eq_true_iff.1 ho).2)
  | .map h, ho => .map (hj _ _ ho h)
  | .tup h, ho => .tup (h.ren hz hj ho)
  | .yld h, ho => .yld (hj _ _ ho h)
  | .accN, _ => .accN
  | .accE h1 h2 h3, _ => .accE (hz _ h1).1 ((hz _ h1).2.trans h2) h3
  | .accC h, ho => .accC (hj _ _ ho h)
  | .lit b, _ => .lit b
  | .junk v, _ => .junk v
theorem VRs.ren {S S' : St} {Z Z' : Nat → Prop} {j j' : Nm} {g : Nat → Bool} {r : Nat → Nat} (hz : ZLe E S Z S' Z') (hj : ∀ i b, g i = true → j i = some b → j' (r i) = some b) {a : List AV} {v : List Value} : VRs E S Z j a v → AV.onlys g a = true → VRs E S' Z' j' (AV.rens r a) v
  | .nil, _ => .nil
  | .cons h hl, ho => .cons (h.ren hz hj (Bool.and_eq_true_iff.1 ho).1) (hl.ren hz hj (Bool.and_eq_true_iff.1 ho).2)
end
mutual
theorem VR.mono {S S' : St} {Z Z' : Nat → Prop} {j j' : Nm} {g : Nat → Bool} (hz : ZLe E S Z S' Z') (hj : ∀ i b, g i = true → j i = some b → j' i = some b) {a : AV} {v : Value} : VR E S Z j a v → a.only g = true → VR E S' Z' j' a v
  | .p h, _ => .p (h.mono hz)
  | .agg hs h, ho => .agg hs (h.mono hz hj ho)
  | .ref h, ho => .ref (hj _ _ ho h)
  | .el h, ho => .el (hj _ _ ho h)
  | .sl h, ho => .sl (hj _ _ ho h)
  | .fn ha hb, ho => .fn (ha.mono hz hj (Bool.and_eq_true_iff.1 ho).1) (hb.mono hz hj (Bool.and_eq_true_iff.1 ho).2)
  | .map h, ho => .map (hj _ _ ho h)
  | .tup h, ho => .tup (h.mono hz hj ho)
  | .yld h, ho => .yld (hj _ _ ho h)
  | .accN, _ => .accN
  | .accE h1 h2 h3, _ => .accE (hz _ h1).1 ((hz _ h1).2.trans h2) h3
  | .accC h, ho => .accC (hj _ _ ho h)
  | .lit b, _ => .lit b
  | .junk v, _ => .junk v
theorem VRs.mono {S S' : St} {Z Z' : Nat → Prop} {j j' : Nm} {g : Nat → Bool} (hz : ZLe E S Z S' Z') (hj : ∀ i b, g i = true → j i = some b → j' i = some b) {a : List AV} {v : List Value} : VRs E S Z j a v → AV.onlys g a = true → VRs E S' Z' j' a v
  | .nil, _ => .nil
  | .cons h hl, ho => .cons (h.mono hz hj (Bool.and_eq_true_iff.1 ho).1) (hl.mono hz hj (Bool.and_eq_true_iff.1 ho).2)
end
mutual
theorem VR.mono' {S S' : St} {Z Z' : Nat → Prop} {j j' : Nm} (hz : ZLe E S Z S' Z') (hj : ∀ i b, j i = some b → j' i = some b) {a : AV} {v : Value} : VR E S Z j a v → VR E S' Z' j' a v
  | .p h => .p (h.mono hz)
  | .agg hs h => .agg hs (h.mono' hz hj)
  | .ref h => .ref (hj _ _ h)
  | .el h => .el (hj _ _ h)
  | .sl h => .sl (hj _ _ h)
  | .fn ha hb => .fn (ha.mono' hz hj) (hb.mono' hz hj)
  | .map h => .map (hj _ _ h)
  | .tup h => .tup (h.mono' hz hj)
  | .yld h => .yld (hj _ _ h)
  | .accN => .accN
  | .accE h1 h2 h3 => .accE (hz _ h1).1 ((hz _ h1).2.trans h2) h3
  | .accC h => .accC (hj _ _ h)
  | .lit b => .lit b
  | .junk v => .junk v
theorem VRs.mono' {S S' : St} {Z Z' : Nat → Prop} {j j' : Nm} (hz : ZLe E S Z S' Z') (hj : ∀ i b, j i = some b → j' i = some b) {a : List AV} {v : List Value} : VRs E S Z j a v → VRs E S' Z' j' a v
  | .nil => .nil
  | .cons h hl => .cons (h.mono' hz hj) (hl.mono' hz hj)
end
theorem PRs.length {S : St} {Z : Nat → Prop} : ∀ {ps : List PV} {vs : List Value}, PRs E S Z ps vs → ps.length = vs.length
  | _, _, .nil => rfl
  | _, _, .cons _ hl => by simp [hl.length]
theorem VRs.length {S : St} {Z : Nat → Prop} {j : Nm} : ∀ {ps : List AV} {vs : List Value}, VRs E S Z j ps vs → ps.length = vs.length
  | _, _, .nil => rfl
  | _, _, .cons _ hl => by simp [hl.length]
theorem PRs.get {S : St} {Z : Nat → Prop} : ∀ {ps : List PV} {vs : List Value}, PRs E S Z ps vs → ∀ {i : Nat} {p : PV}, ps[i]? = some p → ∃ v, vs[i]? = some v ∧ PR E S Z p v
  | _, _, .nil, i, p, h => by simp at h
  | _, _, .cons h hl, 0, p, hp => by simp at hp; subst hp; exact ⟨_, rfl, h⟩
  | _, _, .cons h hl, i + 1, p, hp => by simp at hp; obtain ⟨v, h1, h2⟩ := hl.get hp; exact ⟨v, by simpa using h1, h2⟩
theorem VRs.get {S : St} {Z : Nat → Prop} {j : Nm} : ∀ {ps : List AV} {vs : List Value}, VRs E S Z j ps vs → ∀ {i : Nat} {p : AV}, ps[i]? = some p → ∃ v, vs[i]? = some v ∧ VR E S Z j p v
  | _, _, .nil, i, p, h => by simp at h
  | _, _, .cons h hl, 0, p, hp => by simp at hp; subst hp; exact ⟨_, rfl, h⟩
  | _, _, .cons h hl, i + 1, p, hp => by simp at hp; obtain ⟨v, h1, h2⟩ := hl.get hp; exact ⟨v, by simpa using h1, h2⟩
theorem PRs.take {S : St} {Z : Nat → Prop} : ∀ {ps : List PV} {vs : List Value}, PRs E S Z ps vs → ∀ (i : Nat), PRs E S Z (ps.take i) (vs.take i)
  | _, _, .nil, i => by simp; exact .nil
  | _, _, .cons h hl, 0 => .nil
  | _, _, .cons h hl, i + 1 => .cons h (hl.take i)
theorem PRs.drop {S : St} {Z : Nat → Prop} : ∀ {ps : List PV} {vs : List Value}, PRs E S Z ps vs → ∀ (i : Nat), PRs E S Z (ps.drop i) (vs.drop i)
  | _, _, .nil, i => by simp; exact .nil
  | _, _, .cons h hl, 0 => .cons h hl
  | _, _, .cons h hl, i + 1 => hl.drop i
theorem PRs.append {S : St} {Z : Nat → Prop} : ∀ {ps : List PV} {vs : List Value}, PRs E S Z ps vs → ∀ {qs : List PV} {ws : List Value}, PRs E S Z qs ws → PRs E S Z (ps ++ qs) (vs ++ ws)
  | _, _, .nil, _, _, h => h
  | _, _, .cons h hl, _, _, k => .cons h (hl.append k)
theorem VRs.take {S : St} {Z : Nat → Prop} {j : Nm} : ∀ {ps : List AV} {vs : List Value}, VRs E S Z j ps vs → ∀ (i : Nat), VRs E S Z j (ps.take i) (vs.take i)
  | _, _, .nil, i => by simp; exact .nil
  | _, _, .cons h hl, 0 => .nil
  | _, _, .cons h hl, i + 1 => .cons h (hl.take i)
theorem VRs.drop {S : St} {Z : Nat → Prop} {j : Nm} : ∀ {ps : List AV} {vs : List Value}, VRs E S Z j ps vs → ∀ (i : Nat), VRs E S Z j (ps.drop i) (vs.drop i)
  | _, _, .nil, i => by simp; exact .nil
  | _, _, .cons h hl, 0 => .cons h hl
  | _, _, .cons h hl, i + 1 => hl.drop i
theorem VRs.append {S : St} {Z : Nat → Prop} {j : Nm} : ∀ {ps : List AV} {vs : List Value}, VRs E S Z j ps vs → ∀ {qs : List AV} {ws : List Value}, VRs E S Z j qs ws → VRs E S Z j (ps ++ qs) (vs ++ ws)
  | _, _, .nil, _, _, h => h
  | _, _, .cons h hl, _, _, k => .cons h (hl.append k)
theorem PRs.toV {S : St} {Z : Nat → Prop} {j : Nm} : ∀ {ps : List PV} {vs : List Value}, PRs E S Z ps vs → VRs E S Z j (ps.map .p) vs
  | _, _, .nil => .nil
  | _, _, .cons h hl => .cons (.p h) hl.toV
theorem PR.scalar {S : St} {Z : Nat → Prop} {p : PV} {v : Value} (h : PR E S Z p v) : scalar v = true := by cases h <;> rfl
theorem PRs.scalars {S : St} {Z : Nat → Prop} : ∀ {ps : List PV} {vs : List Value}, PRs E S Z ps vs → vs.all Proofs.YtncpeobcgmkkbaaGreat.scalar = true
  | _, _, .nil => rfl
  | _, _, .cons h hl => by simp only [List.all_cons, h.scalar, hl.scalars, Bool.and_self]
/-- Values of one cell. -/
def AV.flat : AV → Bool
  | .agg _ => false
  | .tup _ => false
  | .junk => false
  | _ => true
theorem VR.scalar {S : St} {Z : Nat → Prop} {j : Nm} {a : AV} {v : Value} (h : VR E S Z j a v) (ha : a.flat = true) : scalar v = true := by
  cases h with
  | p h => exact h.scalar
  | agg _ _ => cases ha
  | tup _ => cases ha
  | junk _ => cases ha
  | _ => rfl
theorem ZLe.refl (S : St) (Z : Nat → Prop) : ZLe E S Z S Z := fun _ h => ⟨h, rfl⟩

abbrev VK := List (Nat × AV)
def ak : VK → Nat → Option AV
  | [], _ => none
  | (s, v) :: l, t => bif Nat.beq s t then some v else ak l t
/-- A block of the call's own. -/
inductive VB where
  | cells (cs : List AV) (t : TypeId)
  | arr (n sz : Nat) (f : Nat → List PV) (t : TypeId)
  | loop (st : LoopState) (pd : Option Code) (G : VK) (N : Nat) (ps : List Tmp) (asg body : Code)
  | acc (n sz : Nat) (f : Nat → List PV) (t : TypeId)
  | mapI (f : Int → Option Int)
abbrev VS := List (Nat × VB)
def bk : VS → Nat → Option VB
  | [], _ => none
  | (s, v) :: l, t => bif Nat.beq s t then some v else bk l t
def FRR (E : Env) (S : St) (Z : Nat → Prop) (j : Nm) (F : VK) (T : Fr) : Prop := ∀ t a, ak F t = some a → ∃ v, T.t.get t = some v ∧ VR E S Z j a v
/-- The entries of a map of ints. -/
def encM (l : List (Int × Int)) : List (Value × Value) := l.map fun p => (.int .i64 p.1, .int .i64 p.2)
def mget (k : Int) : List (Int × Int) → Option Int
  | [] => none
  | p :: l => bif k == p.1 then some p.2 else mget k l
def BR (E : Env) (S : St) (Z : Nat → Prop) (j : Nm) (b : Nat) : VB → Prop
  | .cells cs t => ∃ vs, S.cells b = some (vs, t) ∧ vs.all scalar = true ∧ VRs E S Z j cs vs
  | .arr n sz f t => ∃ vs, ∃ g : Nat → List Value, S.cells b = some (vs, t) ∧ vs.length = n * sz ∧ (∀ k, k < n → cut vs (k * sz) sz = some (g k)) ∧ ∀ k, k < n → PRs E S Z (f k) (g k)
  | .loop st pd G N ps asg body => ∃ T, S.heap.get b = some (.loop st pd T ps asg body) ∧ T.n = N ∧ FRR E S Z j G T
  | .acc n sz f t => ∃ vs, ∃ g : Nat → List Value, S.cells b = some (vs, t) ∧ vs.length = n * sz ∧ (∀ k, k < n → cut vs (k * sz) sz = some (g k)) ∧ ∀ k, k < n → PRs E S Z (f k) (g k)
  | .mapI f => ∃ l, S.heap.get b = some (.map (encM l)) ∧ ∀ k, mget k l = f k
/-- A list that grows, and has nothing yet: no block. -/
def VB.void : VB → Prop
  | .acc n _ _ _ => n = 0
  | _ => False
structure SR (E : Env) (S : St) (Z : Nat → Prop) (j : Nm) (L : VS) : Prop where
  zlt : ∀ b, Z b → b < S.size
  jlt : ∀ i b, j i = some b → b < S.size ∧ ¬ Z b
  inj : ∀ i i' b, j i = some b → j i' = some b → i = i'
  dom : ∀ i, bk L i = none → j i = none
  blk' : ∀ i vb, bk L i = some vb → vb.void ∨ ∃ b, j i = some b ∧ BR E S Z j b vb
  rom : ∀ b c, E.rom.get b = some c → b < S.size ∧ ∀ i, j i ≠ some b
theorem SR.blk {E : Env} {S : St} {Z : Nat → Prop} {j : Nm} {L : VS} (h : SR E S Z j L) (i : Nat) (vb : VB) (hi : bk L i = some vb) (hv : ¬ vb.void) : ∃ b, j i = some b ∧ BR E S Z j b vb := (h.blk' i vb hi).resolve_left hv
/-- What a step leaves of all else. -/
structure Ex (S : St) (Z : Nat → Prop) (j : Nm) (S' : St) (Z' : Nat → Prop) (j' : Nm) : Prop where
  size : S.size ≤ S'.size
  old : ∀ b, b < S.size → (∀ i, j i ≠ some b) → S'.heap.get b = S.heap.get b
  zz : ∀ b, Z b → Z' b
  zn : ∀ b, Z' b → Z b ∨ S.size ≤ b ∨ ∃ i, j i = some b
  jn : ∀ i b, j' i = some b → S.size ≤ b ∨ ∃ i', j i' = some b
  low : S'.low ≤ S.low ∧ ∀ m, m ≤ S.low → m ≤ S.size → (∀ i b, j i = some b → m ≤ b) → m ≤ S'.low
theorem Ex.refl (S : St) (Z : Nat → Prop) (j : Nm) : Ex S Z j S Z j :=
  ⟨Nat.le_refl _, fun _ _ _ => rfl, fun _ h => h, fun _ h => .inl h, fun i _ h => .inr ⟨i, h⟩, Nat.le_refl _, fun _ h _ _ => h⟩
theorem Ex.trans {S S1 S2 : St} {Z Z1 Z2 : Nat → Prop} {j j1 j2 : Nm} (h : Ex S Z j S1 Z1 j1) (k : Ex S1 Z1 j1 S2 Z2 j2) : Ex S Z j S2 Z2 j2 := by
  refine ⟨Nat.le_trans h.size k.size, fun b hb hn => ?_, fun b hb => k.zz b (h.zz b hb), fun b hb => ?_, fun i b hb => ?_, Nat.le_trans k.low.1 h.low.1, fun m h1 h2 h3 => ?_⟩
  · rw [k.old b (Nat.lt_of_lt_of_le hb h.size) (fun i hi => ?_), h.old b hb hn]
    rcases h.jn i b hi with h1 | ⟨i', h1⟩
    · omega
    · exact hn i' h1
  · rcases k.zn b hb with h1 | h1 | ⟨i, h1⟩
    · exact h.zn b h1
    · exact .inr (.inl (Nat.le_trans h.size h1))
    · exact .inr (h.jn i b h1)
  · rcases k.jn i b hb with h1 | ⟨i', h1⟩
    · exact .inl (Nat.le_trans h.size h1)
    · exact h.jn i' b h1
  · refine k.low.2 m (h.low.2 m h1 h2 h3) (Nat.le_trans h2 h.size) (fun i b hb => ?_)
    rcases h.jn i b hb with h4 | ⟨i', h4⟩
    · omega
    · exact h3 i' b h4
theorem Ex.zle {S S' : St} {Z Z' : Nat → Prop} {j j' : Nm} {L : VS} (h : Ex S Z j S' Z' j') (hs : SR E S Z j L) : ZLe E S Z S' Z' := fun b hb =>
  ⟨h.zz b hb, by unfold rdc St.cells; rw [h.old b (hs.zlt b hb) fun i hi => (hs.jlt i b hi).2 hb]⟩
theorem FRR.mono' {S S' : St} {Z Z' : Nat → Prop} {j j' : Nm} {F : VK} {T : Fr} (h : FRR E S Z j F T) (hz : ZLe E S Z S' Z') (hj : ∀ i b, j i = some b → j' i = some b) : FRR E S' Z' j' F T := fun t a ha => by
  obtain ⟨v, h1, h2⟩ := h t a ha
  exact ⟨v, h1, h2.mono' hz hj⟩
theorem BR.mono {S S' : St} {Z Z' : Nat → Prop} {j j' : Nm} {b : Nat} {vb : VB} (h : BR E S Z j b vb) (hh : S'.heap.get b = S.heap.get b) (hz : ZLe E S Z S' Z') (hj : ∀ i b, j i = some b → j' i = some b) : BR E S' Z' j' b vb := by
  have hc : S'.cells b = S.cells b := by unfold St.cells; rw [hh]
  cases vb with
  | cells cs t => obtain ⟨vs, h1, h2, h3⟩ := h; exact ⟨vs, hc.trans h1, h2, h3.mono' hz hj⟩
  | arr n sz f t => obtain ⟨vs, g, h1, h2, h3, h4⟩ := h; exact ⟨vs, g, hc.trans h1, h2, h3, fun k hk => (h4 k hk).mono hz⟩
  | loop st pd G N ps asg body => obtain ⟨T, h1, h2, h3⟩ := h; exact ⟨T, hh.trans h1, h2, h3.mono' hz hj⟩
  | acc n sz f t => obtain ⟨vs, g, h1, h2, h3, h4⟩ := h; exact ⟨vs, g, hc.trans h1, h2, h3, fun k hk => (h4 k hk).mono hz⟩
  | mapI f => obtain ⟨l, h1, h2⟩ := h; exact ⟨l, hh.trans h1, h2⟩
theorem FRR.put {S : St} {Z : Nat → Prop} {j : Nm} {F : VK} {T : Fr} (h : FRR E S Z j F T) {d : Nat} (hd : Nat.blt d T.n = true) {a : AV} {v : Value} (hv : VR E S Z j a v) : ∃ T', T.put (some d) v = some T' ∧ T'.n = T.n ∧ FRR E S Z j ((d, a) :: F) T' := by
  refine ⟨⟨T.n, T.t.set d v⟩, ?_, rfl, fun t u hu => ?_⟩
  · show gd (Nat.blt d T.n) _ = _
    rw [hd]; rfl
  · show ∃ w, (T.t.set d v).get t = some w ∧ _
    rw [Tr.get_set]
    simp only [ak, Tr.beq_def] at hu
    by_cases e : t = d
    · subst e
      simp at hu; subst hu
      exact ⟨v, by simp, hv⟩
    · rw [if_neg e]
      exact h t u (by simpa [show ¬ d = t from fun e' => e e'.symm] using hu)
end Go.Proofs.YtncpeobcgmkkbaaGreat
/- Tables of types; operations that leave the memory, as a walk sees them. -/
namespace Go.Proofs.YtncpeobcgmkkbaaGreat

inductive VD where
  | int (k : IntKind)
  | str
  | bool
  | ptr
  | func
  | map
  | mapI
  | slice (elem esz : Nat)
  | arr (n esz : Nat) (agg : Bool)
  | struct (ints : Bool) (fs : List (Nat × Nat × Bool))
  | other
structure VT where
  size : Nat
  agg : Bool
  d : VD
  zero : List PV
abbrev Tab := List (Nat × VT)
def tget : Tab → Nat → Option VT
  | [], _ => none
  | (s, x) :: l, t => bif Nat.beq s t then some x else tget l t
def zOk : PV → Value → Bool
  | .int k n, .int k' n' => decide (k = k') && decide (n = n')
  | .bool a, .bool b => a == b
  | .str s, .string s' => decide (s = s')
  | .lst _ true 0 _, .slice none 0 0 => true
  | .nilp, .pointer none => true
  | .nilf, .nilFunc => true
  | .nilm, .map none => true
  | _, _ => false
def zOks : List PV → List Value → Bool
  | [], [] => true
  | p :: ps, v :: vs => zOk p v && zOks ps vs
  | _, _ => false
noncomputable def elOk (E : Env) (e sz : Nat) : Bool := Option.rec false (fun (x : LTy) => Nat.beq x.size sz && (Nat.ble x.bytes 4096 && (Nat.blt 0 x.size && Nat.beq x.zero.cells.size x.size))) (E.ti.get e)
noncomputable def aggE (E : Env) (e : Nat) (a : Bool) : Bool := Option.rec false (fun (x : LTy) => x.agg == a) (E.ti.get e)
noncomputable def fieldsOk (E : Env) : List (Nat × Nat × Bool) → List Field → Bool
  | [], [] => true
  | q :: qs, f :: fs => Nat.beq f.offset q.1 && (Option.rec false (fun (x : LTy) => Nat.beq x.size q.2.1 && x.agg == q.2.2) (E.ti.get f.type) && fieldsOk E qs fs)
  | _, _ => false
def isInt : TypeDesc → Bool
  | .int _ => true
  | _ => false
noncomputable def intsOk (E : Env) : List Field → Nat → Bool
  | [], _ => true
  | f :: fs, i => Nat.beq f.offset i && (Option.rec false (fun (x : LTy) => isInt x.desc) (E.ti.get f.type) && intsOk E fs (i + 1))
def isI64 : TypeDesc → Bool
  | .int .i64 => true
  | _ => false
def isZ64 : Value → Bool
  | .int .i64 n => decide (n = 0)
  | _ => false
noncomputable def kOk (E : Env) (t : Nat) : Bool := Option.rec false (fun (x : LTy) => isI64 x.desc) (E.ti.get t)
noncomputable def zOk64 (E : Env) (t : Nat) : Bool := Option.rec false (fun (x : LTy) => isZ64 x.zero) (E.ti.get t)
noncomputable def dOk (E : Env) (i : LTy) : VD → Bool
  | .int k => match i.desc with
    | .int k' => decide (k = k')
    | _ => false
  | .str => match i.desc with
    | .string => true
    | _ => false
  | .bool => match i.desc with
    | .bool => true
    | _ => false
  | .ptr => match i.desc with
    | .pointer _ => true
    | _ => false
  | .func => match i.desc with
    | .func _ _ _ => true
    | _ => false
  | .map => match i.desc with
    | .map _ _ => true
    | _ => false
  | .mapI => match i.desc with
    | .map k e => kOk E k && zOk64 E e
    | _ => false
  | .slice e sz => match i.desc with
    | .slice e' => Nat.beq e e' && elOk E e sz
    | _ => false
  | .arr n sz a => match i.desc with
    | .array m e => Nat.beq n m && (elOk E e sz && aggE E e a)
    | _ => false
  | .struct ints fs => match i.desc with
    | .struct gs => fieldsOk E fs gs.toList && (!ints || (i.plain && intsOk E gs.toList 0))
    | _ => false
  | .other => true
noncomputable def vtOk (E : Env) (t : Nat) (x : VT) : Bool := Option.rec false (fun (i : LTy) => Nat.beq i.size x.size && (i.agg == x.agg && (zOks x.zero i.zero.cells.toList && dOk E i x.d))) (E.ti.get t)
noncomputable def TabOK (E : Env) (tb : Tab) : Bool := tb.all fun p => vtOk E p.1 p.2

theorem tget_ok {E : Env} : ∀ {tb : Tab} {t : Nat} {x : VT}, TabOK E tb = true → tget tb t = some x → vtOk E t x = true
  | [], t, x, _, h => by cases h
  | (s, y) :: l, t, x, hT, h => by
    simp only [TabOK, List.all_cons, Bool.and_eq_true] at hT
    simp only [tget] at h
    by_cases e : s = t
    · subst e; simp at h; subst h; exact hT.1
    · rw [show Nat.beq s t = false by rw [Tr.beq_def]; simpa using e] at h
      exact tget_ok (tb := l) hT.2 h
structure VTok (E : Env) (t : Nat) (x : VT) (i : LTy) : Prop where
  get : E.ti.get t = some i
  size : i.size = x.size
  agg : i.agg = x.agg
  zero : zOks x.zero i.zero.cells.toList = true
  d : dOk E i x.d = true
theorem vt_ok {E : Env} {tb : Tab} {t : Nat} {x : VT} (hT : TabOK E tb = true) (h : tget tb t = some x) : ∃ i, VTok E t x i := by
  have h1 := tget_ok hT h
  unfold vtOk at h1
  cases hi : E.ti.get t with
  | none => rw [hi] at h1; cases h1
  | some i =>
    rw [hi] at h1
    simp only [Bool.and_eq_true] at h1
    obtain ⟨h2, h3, h4, h5⟩ := h1
    exact ⟨i, hi, beq_eq h2, by simpa using h3, h4, h5⟩
structure Elok (E : Env) (e sz : Nat) (x : LTy) : Prop where
  get : E.ti.get e = some x
  size : x.size = sz
  bytes : Nat.ble x.bytes 4096 = true
  pos : 0 < x.size
  zero : Nat.beq x.zero.cells.size x.size = true
theorem el_ok {E : Env} {e sz : Nat} (h : elOk E e sz = true) : ∃ x, Elok E e sz x := by
  unfold elOk at h
  cases hi : E.ti.get e with
  | none => rw [hi] at h; cases h
  | some x =>
    rw [hi] at h
    simp only [Bool.and_eq_true] at h
    obtain ⟨h2, h3, h4, h5⟩ := h
    exact ⟨x, hi, beq_eq h2, h3, blt_lt h4, h5⟩
theorem fields_ok {E : Env} : ∀ {qs : List (Nat × Nat × Bool)} {fs : List Field}, fieldsOk E qs fs = true → ∀ {i : Nat} {q : Nat × Nat × Bool}, qs[i]? = some q →
    ∃ f x, fs[i]? = some f ∧ f.offset = q.1 ∧ E.ti.get f.type = some x ∧ x.size = q.2.1 ∧ x.agg = q.2.2
  | [], [], _, i, q, h => by simp at h
  | [], _ :: _, h, _, _, _ => by simp [fieldsOk] at h
  | _ :: _, [], h, _, _, _ => by simp [fieldsOk] at h
  | q0 :: qs, f0 :: fs, hk, i, q, h => by
    simp only [fieldsOk, Bool.and_eq_true] at hk
    obtain ⟨h1, h2, h3⟩ := hk
    cases i with
    | zero =>
      simp at h; subst h
      cases hx : E.ti.get f0.type with
      | none => rw [hx] at h2; cases h2
      | some x =>
        rw [hx] at h2
        simp only [Bool.and_eq_true] at h2
        exact ⟨f0, x, by simp, beq_eq h1, hx, beq_eq h2.1, by simpa using h2.2⟩
    | succ i =>
      simp at h
      obtain ⟨f, x, h4, h5⟩ := fields_ok h3 h
      exact ⟨f, x, by simpa using h4, h5⟩
theorem zOk_pr {E : Env} {S : St} {Z : Nat → Prop} {p : PV} {v : Value} (h : zOk p v = true) : PR E S Z p v := by
  unfold zOk at h
  split at h
  · simp only [Bool.and_eq_true, decide_eq_true_eq] at h; obtain ⟨rfl, rfl⟩ := h; exact .int _ _
  · simp at h; subst h; exact .bool _
  · simp at h; subst h; exact .str _
  · exact .nil _ _
  · exact .nilp
  · exact .nilf
  · exact .nilm
  · cases h
theorem zOks_prs {E : Env} {S : St} {Z : Nat → Prop} : ∀ {ps : List PV} {vs : List Value}, zOks ps vs = true → PRs E S Z ps vs
  | [], [], _ => .nil
  | [], _ :: _, h => by simp [zOks] at h
  | _ :: _, [], h => by simp [zOks] at h
  | p :: ps, v :: vs, h => by
    simp only [zOks, Bool.and_eq_true] at h
    exact .cons (zOk_pr h.1) (zOks_prs h.2)

/-- Constants. -/
def cvp : Value → Option PV
  | .int k n => some (.int k n)
  | .bool b => some (.bool b)
  | .string s => some (.str s)
  | .slice none 0 0 => some (.lst 0 true 0 fun _ => [])
  | .pointer none => some .nilp
  | .nilFunc => some .nilf
  | .map none => some .nilm
  | _ => none
def cvs : List Value → Option (List AV)
  | [] => some []
  | v :: vs => match cvp v with
    | none => none
    | some p => match cvs vs with
      | none => none
      | some ps => some (.p p :: ps)
def cv : Value → Option AV
  | .agg cs => match cvs cs.toList with
    | none => none
    | some l => some (.agg l)
  | v => match cvp v with
    | none => none
    | some p => some (.p p)
section
variable {E : Env} {S : St} {Z : Nat → Prop} {j : Nm}
theorem cvp_ok {v : Value} {p : PV} (h : cvp v = some p) : PR E S Z p v := by
  unfold cvp at h
  split at h <;> cases h
  · exact .int _ _
  · exact .bool _
  · exact .str _
  · exact .nil _ _
  · exact .nilp
  · exact .nilf
  · exact .nilm
theorem cvs_ok : ∀ {vs : List Value} {l : List AV}, cvs vs = some l → VRs E S Z j l vs ∧ vs.all scalar = true
  | [], l, h => by cases h; exact ⟨.nil, rfl⟩
  | v :: vs, l, h => by
    simp only [cvs] at h
    split at h
    · cases h
    · rename_i p hp
      split at h
      · cases h
      · rename_i ps hps
        cases h
        obtain ⟨h1, h2⟩ := cvs_ok hps
        have h3 := cvp_ok (E := E) (S := S) (Z := Z) hp
        exact ⟨.cons (.p h3) h1, by simp only [List.all_cons, h3.scalar, h2, Bool.and_self]⟩
theorem cv_ok {v : Value} {a : AV} (h : cv v = some a) : VR E S Z j a v := by
  unfold cv at h
  split at h
  · split at h
    · cases h
    · rename_i l hl
      cases h
      obtain ⟨h1, h2⟩ := cvs_ok (E := E) (S := S) (Z := Z) (j := j) hl
      exact .agg h2 h1
  · split at h
    · cases h
    · rename_i p hp; cases h; exact .p (cvp_ok hp)
end
/-- A truth value that is told. -/
def unl : AV → AV
  | .lit b => .p (.bool b)
  | a => a
def avr (F : VK) : Operand → Option AV
  | .tmp t => ak F t
  | .const (.bool b) => some (.lit b)
  | .const v => cv v
  | .func f => some (.fn f [] [])
  | .global _ => none
def av (F : VK) (x : Operand) : Option AV := match avr F x with
  | some a => some (unl a)
  | none => none
def avs (F : VK) : List Operand → Option (List AV)
  | [] => some []
  | x :: xs => match av F x with
    | none => none
    | some a => match avs F xs with
      | none => none
      | some as => some (a :: as)
section
variable {E : Env} {S : St} {Z : Nat → Prop} {j : Nm} {F : VK} {T : Fr}
theorem VR.unl {a : AV} {v : Value} (h : VR E S Z j a v) : VR E S Z j (unl a) v := by
  cases h with
  | lit b => exact .p (.bool b)
  | p h => exact .p h
  | agg hs h => exact .agg hs h
  | ref h => exact .ref h
  | el h => exact .el h
  | sl h => exact .sl h
  | fn ha hb => exact .fn ha hb
  | map h => exact .map h
  | tup h => exact .tup h
  | yld h => exact .yld h
  | accN => exact .accN
  | accE h1 h2 h3 => exact .accE h1 h2 h3
  | accC h => exact .accC h
  | junk v => exact .junk v
theorem FRR.evr (h : FRR E S Z j F T) {x : Operand} {a : AV} (hx : avr F x = some a) : ∃ v, T.ev x = some v ∧ VR E S Z j a v := by
  cases x with
  | tmp t => exact h t a hx
  | const v =>
    refine ⟨v, rfl, ?_⟩
    unfold avr at hx
    split at hx
    · rename_i e; cases e
    · rename_i e; cases e; cases hx; exact .lit _
    · rename_i e; cases e; exact cv_ok hx
    · rename_i e; cases e
    · rename_i e; cases e
  | func f => simp only [avr] at hx; cases hx; exact ⟨_, rfl, .fn .nil .nil⟩
  | global g => simp only [avr] at hx; cases hx
theorem FRR.ev (h : FRR E S Z j F T) {x : Operand} {a : AV} (hx : av F x = some a) : ∃ v, T.ev x = some v ∧ VR E S Z j a v := by
  unfold av at hx
  split at hx
  · rename_i b hb
    cases hx
    obtain ⟨v, h1, h2⟩ := h.evr hb
    exact ⟨v, h1, h2.unl⟩
  · cases hx
theorem FRR.evs (h : FRR E S Z j F T) : ∀ {xs : List Operand} {l : List AV}, avs F xs = some l → ∃ vs, T.evs xs = some vs ∧ VRs E S Z j l vs
  | [], l, hx => by simp only [avs] at hx; cases hx; exact ⟨[], rfl, .nil⟩
  | x :: xs, l, hx => by
    simp only [avs] at hx
    split at hx
    · cases hx
    · rename_i a ha
      split at hx
      · cases hx
      · rename_i as has
        cases hx
        obtain ⟨v, h1, h2⟩ := h.ev ha
        obtain ⟨vs, h3, h4⟩ := h.evs has
        refine ⟨v :: vs, ?_, .cons h2 h4⟩
        show ob (T.ev x) _ = _
        rw [h1]
        show ob (T.evs xs) _ = _
        rw [h3]; rfl
end

/-- Arithmetic and comparisons. -/
def inR (n : Int) : Prop := -9223372036854775808 ≤ n ∧ n < 9223372036854775808
def vbinI (op : BinOp) (a b : Int) : Option (List Prop × PV) := match op with
  | .lss => some ([], .bool (decide (a < b)))
  | .leq => some ([], .bool (decide (a ≤ b)))
  | .gtr => some ([], .bool (decide (b < a)))
  | .geq => some ([], .bool (decide (b ≤ a)))
  | .eql => some ([], .bool (a == b))
  | .neq => some ([], .bool (!(a == b)))
  | .add => some ([inR (a + b)], .int .i64 (a + b))
  | .sub => some ([inR (a - b)], .int .i64 (a - b))
  | .mul => some ([inR (a * b)], .int .i64 (a * b))
  | _ => none
def vbinB (op : BinOp) (a b : Bool) : Option (List Prop × PV) := match op with
  | .eql => some ([], .bool (a == b))
  | .neq => some ([], .bool (!(a == b)))
  | _ => none
def vbinS (op : BinOp) (a b : ByteArray) : Option (List Prop × PV) := match op with
  | .eql => some ([], .bool (a.toList == b.toList))
  | .neq => some ([], .bool (!(a.toList == b.toList)))
  | _ => none
def vbin (op : BinOp) (x y : PV) : Option (List Prop × PV) := match x, y with
  | .int .i64 a, .int .i64 b => vbinI op a b
  | .int .u8 a, .int .u8 b => match op with
    | .lss | .leq | .gtr | .geq | .eql | .neq => vbinI op a b
    | _ => none
  | .int .u64 a, .int .u64 b => match op with
    | .lss | .leq | .gtr | .geq | .eql | .neq => vbinI op a b
    | _ => none
  | .str a, .str b => vbinS op a b
  | _, _ => none
/-- Structures of integers. -/
def eqInts : List AV → List AV → Option Bool
  | [], [] => some true
  | .p (.int .i64 a) :: l, .p (.int .i64 b) :: m => match eqInts l m with
    | none => none
    | some r => some ((a == b) && r)
  | _, _ => none
def veq (tb : Tab) (t : Nat) (x y : AV) : Option Bool := match tget tb t with
  | none => none
  | some i => match i.d with
    | .bool => match x, y with
      | .p (.bool a), .p (.bool b) => some (a == b)
      | _, _ => none
    | .struct true fs => match x, y with
      | .agg a, .agg b => bif Nat.beq fs.length a.length then eqInts a b else none
      | _, _ => none
    | .slice _ _ => match x, y with
      | .p (.lst _ b _ _), .p (.lst _ true 0 _) => some b
      | .sl _ _ _ _ _ _, .p (.lst _ true 0 _) => some false
      | .acc nb _ _ n, .p (.lst _ true 0 _) => some (nb && Nat.beq n 0)
      | _, _ => none
    | .ptr => match x, y with
      | .p .nilp, .p .nilp => some true
      | .p (.fp _ _), .p .nilp => some false
      | .ref _ _, .p .nilp => some false
      | _, _ => none
    | .func => match x, y with
      | .p .nilf, .p .nilf => some true
      | .fn _ _ _, .p .nilf => some false
      | _, _ => none
    | .map => match x, y with
      | .p .nilm, .p .nilm => some true
      | .map _, .p .nilm => some false
      | _, _ => none
    | _ => none
section
variable {E : Env} {i : LTy}
theorem dOk_int {k : IntKind} (h : dOk E i (.int k) = true) : i.desc = .int k := by
  simp only [dOk] at h; split at h
  · rename_i e; rw [e]; simp at h; rw [h]
  · cases h
theorem dOk_str (h : dOk E i .str = true) : i.desc = .string := by
  simp only [dOk] at h; split at h
  · rename_i e; exact e
  · cases h
theorem dOk_bool (h : dOk E i .bool = true) : i.desc = .bool := by
  simp only [dOk] at h; split at h
  · rename_i e; exact e
  · cases h
theorem dOk_ptr (h : dOk E i .ptr = true) : ∃ t, i.desc = .pointer t := by
  simp only [dOk] at h; split at h
  · rename_i e; exact ⟨_, e⟩
  · cases h
theorem dOk_func (h : dOk E i .func = true) : ∃ a b c, i.desc = .func a b c := by
  simp only [dOk] at h; split at h
  · rename_i e; exact ⟨_, _, _, e⟩
  · cases h
theorem dOk_map (h : dOk E i .map = true) : ∃ a b, i.desc = .map a b := by
  simp only [dOk] at h; split at h
  · rename_i e; exact ⟨_, _, e⟩
  · cases h
theorem dOk_slice {e sz : Nat} (h : dOk E i (.slice e sz) = true) : i.desc = .slice e ∧ ∃ x, Elok E e sz x := by
  simp only [dOk] at h; split at h
  · rename_i e' he
    simp only [Bool.and_eq_true] at h
    rw [he, ← beq_eq h.1]; exact ⟨rfl, el_ok h.2⟩
  · cases h
theorem dOk_arr {n sz : Nat} {a : Bool} (h : dOk E i (.arr n sz a) = true) : ∃ e x, i.desc = .array n e ∧ Elok E e sz x ∧ x.agg = a := by
  simp only [dOk] at h; split at h
  · rename_i m e he
    simp only [Bool.and_eq_true] at h
    obtain ⟨h1, h2, h3⟩ := h
    obtain ⟨x, hx⟩ := el_ok h2
    refine ⟨e, x, by rw [he, beq_eq h1], hx, ?_⟩
    unfold aggE at h3; rw [hx.get] at h3; simpa using h3
  · cases h
theorem fields_len : ∀ {qs : List (Nat × Nat × Bool)} {fs : List Field}, fieldsOk E qs fs = true → qs.length = fs.length
  | [], [], _ => rfl
  | [], _ :: _, h => by simp [fieldsOk] at h
  | _ :: _, [], h => by simp [fieldsOk] at h
  | _ :: qs, _ :: fs, h => by
    simp only [fieldsOk, Bool.and_eq_true] at h
    simp [fields_len h.2.2]
theorem dOk_struct {ints : Bool} {fs : List (Nat × Nat × Bool)} (h : dOk E i (.struct ints fs) = true) : ∃ gs, i.desc = .struct gs ∧ fieldsOk E fs gs.toList = true ∧ (ints = true → i.plain = true ∧ intsOk E gs.toList 0 = true) := by
  simp only [dOk] at h; split at h
  · rename_i gs he
    simp only [Bool.and_eq_true, Bool.or_eq_true] at h
    refine ⟨gs, he, h.1, fun hi => ?_⟩
    rcases h.2 with h2 | h2
    · rw [hi] at h2; cases h2
    · exact h2
  · cases h
end
section
variable {S : St} {Z : Nat → Prop} {j : Nm} {E : Env}
theorem vbinI_ok {op : BinOp} {a b : Int} {obs : List Prop} {z : PV} {t : TypeId} (h : vbinI op a b = some (obs, z)) (ho : ∀ P ∈ obs, P) : ∃ u, binL E op t (.int .i64 a) (.int .i64 b) = some u ∧ PR E S Z z u := by
  unfold vbinI at h
  split at h <;> cases h
  · exact ⟨_, b_lss, .bool _⟩
  · exact ⟨_, b_leq, .bool _⟩
  · exact ⟨_, b_gtr, .bool _⟩
  · exact ⟨_, b_geq, .bool _⟩
  · exact ⟨_, b_eql, .bool _⟩
  · exact ⟨_, b_neq, .bool _⟩
  · have := ho _ List.mem_cons_self; exact ⟨_, b_add this.1 this.2, .int _ _⟩
  · have := ho _ List.mem_cons_self; exact ⟨_, b_sub this.1 this.2, .int _ _⟩
  · have := ho _ List.mem_cons_self; exact ⟨_, b_mul this.1 this.2, .int _ _⟩
theorem vbin_ok {op : BinOp} {x y : PV} {obs : List Prop} {z : PV} {t : TypeId} {v w : Value} (h : vbin op x y = some (obs, z)) (ho : ∀ P ∈ obs, P) (hx : PR E S Z x v) (hy : PR E S Z y w) : ∃ u, binL E op t v w = some u ∧ PR E S Z z u := by
  unfold vbin at h
  split at h
  · cases hx; cases hy; exact vbinI_ok h ho
  · cases hx; cases hy
    split at h
    · cases h; exact ⟨_, rfl, .bool _⟩
    · cases h; exact ⟨_, rfl, .bool _⟩
    · cases h; exact ⟨_, rfl, .bool _⟩
    · cases h; exact ⟨_, rfl, .bool _⟩
    · cases h; exact ⟨_, rfl, .bool _⟩
    · cases h; exact ⟨_, rfl, .bool _⟩
    · cases h
  · cases hx; cases hy
    split at h
    · cases h; exact ⟨_, rfl, .bool _⟩
    · cases h; exact ⟨_, rfl, .bool _⟩
    · cases h; exact ⟨_, rfl, .bool _⟩
    · cases h; exact ⟨_, rfl, .bool _⟩
    · cases h; exact ⟨_, rfl, .bool _⟩
    · cases h; exact ⟨_, rfl, .bool _⟩
    · cases h
  · cases hx; cases hy
    unfold vbinS at h
    split at h <;> cases h
    · exact ⟨_, rfl, .bool _⟩
    · exact ⟨_, rfl, .bool _⟩
  · cases h
theorem eqInts_ok : ∀ {fs : List Field} {i : Nat} {a b : List AV} {va vb : List Value} {r : Bool}, intsOk E fs i = true → fs.length = a.length → eqInts a b = some r → VRs E S Z j a va → VRs E S Z j b vb → fieldsEq E fs i va vb = some r
  | [], i, [], b, va, vb, r, hi, hl, h, ha, hb => by
    cases ha
    cases b with
    | nil => cases hb; simp only [eqInts] at h; cases h; rfl
    | cons _ _ => simp only [eqInts] at h; cases h
  | [], i, _ :: _, b, va, vb, r, hi, hl, h, ha, hb => by simp at hl
  | f :: fs, i, [], b, va, vb, r, hi, hl, h, ha, hb => by simp at hl
  | f :: fs, i, a0 :: a, b, va, vb, r, hi, hl, h, ha, hb => by
    have key : ∃ x y m, a0 = .p (.int .i64 x) ∧ b = .p (.int .i64 y) :: m := by
      unfold eqInts at h
      split at h
      · rename_i e; exact absurd e (by simp)
      · rename_i e1; exact ⟨_, _, _, (List.cons.inj e1).1, rfl⟩
      · cases h
    obtain ⟨x, y, m, rfl, rfl⟩ := key
    simp only [eqInts] at h
    split at h
    · cases h
    · rename_i r0 hr0
      cases h
      cases ha with
      | cons h1 h2 =>
        cases hb with
        | cons h3 h4 =>
          cases h1 with
          | p h1 => cases h1; cases h3 with
            | p h3 =>
              cases h3
              simp only [intsOk, Bool.and_eq_true] at hi
              obtain ⟨hi1, hi2, hi3⟩ := hi
              cases hx : E.ti.get f.type with
              | none => rw [hx] at hi2; cases hi2
              | some ft =>
                rw [hx] at hi2
                have ih := eqInts_ok hi3 (by simpa using hl) hr0 h2 h4
                have hd : isInt ft.desc = true := hi2
                have hk : keyKind ft.desc (.int .i64 x) = true := by
                  cases hdd : ft.desc <;> rw [hdd] at hd <;> first | rfl | cases hd
                unfold fieldsEq
                rw [hx]
                show gd (Nat.beq f.offset i && keyKind ft.desc (.int .i64 x)) (ob (sameL (.int .i64 x) (.int .i64 y)) fun p => ob (fieldsEq E fs (Nat.succ i) _ _) fun q => some (p && q)) = _
                rw [hi1, hk, ih]; rfl
end
end Go.Proofs.YtncpeobcgmkkbaaGreat
