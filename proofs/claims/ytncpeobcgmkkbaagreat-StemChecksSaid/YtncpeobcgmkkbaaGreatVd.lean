/- The program's StemChecks returns true for every stem and every ones, valid or not, without an exception and without changing its arguments: a part of the proof. -/
import Derived.Test.YtncpeobcgmkkbaaGreatVc
import Derived.ChangeArms
import Derived.OpenShut
import Derived.ChangeSame
import Derived.Carry
import Derived.Handed
set_option linter.all false
/- Walks over values: runs of steps; what is written no more; bodies. -/
namespace Go.Proofs.YtncpeobcgmkkbaaGreat
noncomputable section

inductive VSt where
  | code (c : Code) (K : List KI) (F : VK) (L : VS)
  | ops (ops : Array Oper) (rest : List Oper) (K : List KI) (F : VK) (L : VS)
  | dops (ops : Array Oper) (bs : List Nat) (ks : List (Nat × Option Nat)) (rest : List Oper) (i : Nat) (K : List KI) (F : VK) (L : VS)
  | ex (e : LExit) (K : List KI) (F : VK) (L : VS)
section
variable (E : Env) (N : Nat) (st : List Nat) (rd : Option Nat) (Q : VPost)
def VSt.H : VSt → Prop
  | .code c K F L => VW E N st rd c F L (KX E N st rd Q K)
  | .ops os rest K F L => VO E N st os rest F L fun F L => KX E N st rd Q K .normal F L
  | .dops os bs ks rest i K F L => VD0 E N st os bs ks rest i F L fun F L => KX E N st rd Q K .normal F L
  | .ex e K F L => KX E N st rd Q K e F L
end
def stopAt (sp : List Nat) : Option Nat → Bool
  | some d => sp.any fun x => Nat.beq x d
  | none => false
/-- One step; none: a call, a branch, a loop, the end. -/
def vgl (ops : Array Oper) (F : VK) : Option (Nat × Bool) → Option Bool
  | none => some true
  | some g => match ops.toList[g.1]? with
    | none => none
    | some o => match o.dst with
      | none => none
      | some d => match ak F d with
        | some (.lit c) => some (c == g.2)
        | some (.tup _) => some false
        | _ => none
noncomputable def vopGo (tb : Tab) (N : Nat) (st : List Nat) (z : Bool) (sp : List Nat) (F : VK) (L : VS) (o : Oper) : Option VOut :=
  bif dstOk o.dst N && !stopAt sp o.dst then (match vopP tb F L o.op with
    | some r => some ⟨r.1, vbind o.dst r.2 F, .junk, L, 0, 0⟩
    | none => match vopS tb F L z o.op with
      | some out => bif !Nat.beq out.kind 2 || st.all (fun i => !Nat.beq i out.at_) then some ⟨out.ob, vbind o.dst out.a out.F, .junk, out.L, out.kind, out.at_⟩ else none
      | none => none) else none
noncomputable def vopStep (tb : Tab) (N : Nat) (st : List Nat) (z : Bool) (sp : List Nat) (ops : Array Oper) (F : VK) (L : VS) (o : Oper) : Option VOut := match vgl ops F o.guard with
  | none => none
  | some true => vopGo tb N st z sp F L o
  | some false => bif dstOk o.dst N then some ⟨[], vbind o.dst (.tup []) F, .junk, L, 0, 0⟩ else none
noncomputable def vstep (tb : Tab) (N : Nat) (st : List Nat) (z : Bool) (sp : List Nat) : VSt → Option (List Prop × VSt)
  | .code (.seq a b) K F L => some ([], .code a (.seq b :: K) F L)
  | .code (.block id b) K F L => some ([], .code b (.block id :: K) F L)
  | .code .skip K F L => some ([], .ex .normal K F L)
  | .code .ret K F L => some ([], .ex .ret K F L)
  | .code (.exit id) K F L => some ([], .ex (.exit id) K F L)
  | .code (.region _ ops false) K F L => some ([], .ops ops ops.toList K F L)
  | .code (.region _ ops true) K F L => some ([], .dops ops (befL ops.toList []) (ksL L L) ops.toList 0 K F L)
  | .code (.cond c a b) K F L => match avr F c with
    | some (.lit true) => some ([], .code a K F L)
    | some (.lit false) => some ([], .code b K F L)
    | _ => none
  | .code _ _ _ _ => none
  | .ops _ [] K F L => some ([], .ex .normal K F L)
  | .ops ops (o :: rest) K F L => match vopStep tb N st z sp ops F L o with
    | some out => some (out.ob, .ops ops rest K out.F out.L)
    | none => none
  | .dops _ _ _ [] _ K F L => some ([], .ex .normal K F L)
  | .dops ops bs ks (o :: rest) i K F L => match vopStep tb N st z sp ops F L o with
    | some out => bif mayWrite ops bs ks i F o.op out then some (out.ob, .dops ops bs (ksOf ks out.kind out.at_ L out.L i) rest (i + 1) K out.F out.L) else none
    | none => none
  | .ex .normal (.seq b :: K) F L => some ([], .code b K F L)
  | .ex (.exit k) (.seq _ :: K) F L => some ([], .ex (.exit k) K F L)
  | .ex .ret (.seq _ :: K) F L => some ([], .ex .ret K F L)
  | .ex (.exit k) (.block id :: K) F L => bif Nat.beq k id then some ([], .ex .normal K F L) else some ([], .ex (.exit k) K F L)
  | .ex .normal (.block _ :: K) F L => some ([], .ex .normal K F L)
  | .ex .ret (.block _ :: K) F L => some ([], .ex .ret K F L)
  | .ex (.exit k) (.inv _ :: K) F L => some ([], .ex (.exit k) K F L)
  | .ex .ret (.inv _ :: K) F L => some ([], .ex .ret K F L)
  | .ex _ _ _ _ => none
noncomputable def vrun (tb : Tab) (N : Nat) (st : List Nat) (z : Bool) (sp : List Nat) : Nat → List Prop → VSt → List Prop × VSt
  | 0, acc, s => (acc, s)
  | n + 1, acc, s => match vstep tb N st z sp s with
    | none => (acc, s)
    | some ([], s') => vrun tb N st z sp n acc s'
    | some (p :: ps, s') => vrun tb N st z sp n (acc ++ (p :: ps)) s'
def AllP : List Prop → Prop
  | [] => True
  | [p] => p
  | p :: l => p ∧ AllP l
theorem AllP.mem : ∀ {l : List Prop}, AllP l → ∀ P ∈ l, P
  | [], _, P, h => by cases h
  | [p], hp, P, h => by rw [List.mem_singleton.1 h]; exact hp
  | p :: q :: l, hp, P, h => by
    rcases List.mem_cons.1 h with rfl | h
    · exact hp.1
    · exact AllP.mem (l := q :: l) hp.2 P h
section
variable {E : Env} {N : Nat} {st : List Nat} {rd : Option Nat} {Q : VPost} {tb : Tab} {z : Bool} {sp : List Nat}
theorem takeS_nil : ∀ (L : VS) (r : Nat → Nat), backS r [] ++ takeS [] L = L := by
  intro L r
  show takeS [] L = L
  induction L with
  | nil => rfl
  | cons p l ih => obtain ⟨i, v⟩ := p; show (i, v) :: takeS [] l = _; rw [ih]
mutual
theorem ren_only : ∀ {r : Nat → Nat} (a : AV), a.only (fun _ => false) = true → a.ren r = a
  | r, .p _, _ => rfl
  | r, .agg cs, h => by simp only [AV.ren_agg, rens_only (r := r) cs h]
  | r, .ref _ _, h => by cases h
  | r, .el _ _ _ _, h => by cases h
  | r, .sl _ _ _ _ _ _, h => by cases h
  | r, .fn _ a b, h => by
    simp only [AV.only_fn, Bool.and_eq_true] at h
    simp only [AV.ren_fn, rens_only (r := r) a h.1, rens_only (r := r) b h.2]
  | r, .map _, h => by cases h
  | r, .tup vs, h => by simp only [AV.ren_tup, rens_only (r := r) vs h]
  | r, .yld _, h => by cases h
  | r, .acc _ _ _ _, h => by cases h
  | r, .lit _, _ => rfl
  | r, .junk, _ => rfl
theorem rens_only : ∀ {r : Nat → Nat} (l : List AV), AV.onlys (fun _ => false) l = true → AV.rens r l = l
  | r, [], _ => rfl
  | r, a :: l, h => by
    simp only [AV.onlys_cons, Bool.and_eq_true] at h
    simp only [AV.rens_cons, ren_only (r := r) a h.1, rens_only (r := r) l h.2]
end
theorem rens_id (l : List AV) (h : AV.onlys (olds []) l = true) : AV.rens (rnk []) l = l := rens_only l h
theorem vgl_ok {ops : Array Oper} {F : VK} {g : Option (Nat × Bool)} {b : Bool} (h : vgl ops F g = some b) : vgd ops F g = some b := by
  cases g with
  | none => exact h
  | some g =>
    simp only [vgl] at h
    simp only [vgd]
    split at h
    · cases h
    · rename_i o ho
      rw [ho]
      simp only
      split at h
      · cases h
      · rename_i d hd
        rw [hd]
        simp only
        split at h
        · rename_i c hc; rw [hc]; exact h
        · rename_i c hc; rw [hc]; exact h
        · cases h
theorem vopGo_ok {F : VK} {L : VS} {o : Oper} {out : VOut} (h : vopGo tb N st z sp F L o = some out) : dstOk o.dst N = true ∧
    ((∃ r, vopP tb F L o.op = some r ∧ out = ⟨r.1, vbind o.dst r.2 F, .junk, L, 0, 0⟩) ∨ ∃ q, vopS tb F L z o.op = some q ∧ (Nat.beq q.kind 2 = true → (st.all fun i => !Nat.beq i q.at_) = true) ∧ out = ⟨q.ob, vbind o.dst q.a q.F, .junk, q.L, q.kind, q.at_⟩) := by
  unfold vopGo at h
  cases hb : (dstOk o.dst N && !stopAt sp o.dst) with
  | false => rw [hb] at h; cases h
  | true =>
    rw [hb] at h
    simp only [Bool.and_eq_true] at hb
    refine ⟨hb.1, ?_⟩
    simp only [cond_true] at h
    split at h
    · rename_i r hr; cases h; exact .inl ⟨r, hr, rfl⟩
    · split at h
      · rename_i q hq
        cases hk : (!Nat.beq q.kind 2 || st.all fun i => !Nat.beq i q.at_) with
        | false => rw [hk] at h; cases h
        | true =>
          rw [hk] at h; cases h
          refine .inr ⟨q, hq, fun h2 => ?_, rfl⟩
          rw [h2] at hk; simpa using hk
      · cases h
theorem vopStep_ok {ops : Array Oper} {F : VK} {L : VS} {o : Oper} {out : VOut} (h : vopStep tb N st z sp ops F L o = some out) :
    (vgd ops F o.guard = some true ∧ vopGo tb N st z sp F L o = some out) ∨ (vgd ops F o.guard = some false ∧ dstOk o.dst N = true ∧ out = ⟨[], vbind o.dst (.tup []) F, .junk, L, 0, 0⟩) := by
  unfold vopStep at h
  split at h
  · cases h
  · rename_i hg; exact .inl ⟨vgl_ok hg, h⟩
  · rename_i hg
    cases hd : dstOk o.dst N with
    | false => rw [hd] at h; cases h
    | true => rw [hd] at h; cases h; exact .inr ⟨vgl_ok hg, rfl, rfl⟩
theorem vgd_none {ops : Array Oper} {F : VK} {o : Oper} (h : o.guard = none) : vgd ops F o.guard = some true := by rw [h]; rfl
theorem ksOf_self {ks : List (Nat × Option Nat)} {L : VS} {i : Nat} : ksOf ks 0 0 L L i = ks := by
  show (bif isNew L L && _ then _ else ks) = ks
  have : isNew L L = false := by
    cases L with
    | nil => rfl
    | cons p l =>
      obtain ⟨n, v⟩ := p
      show Nat.beq n (nx ((n, v) :: l)) = false
      exact beq_ne (Nat.ne_of_lt (nx_lt (v := v) (by rw [bk_cons, if_pos rfl])))
  rw [this]; rfl
theorem vstep_ok (hT : TabOK E tb = true) {s s' : VSt} {obs : List Prop} (h : vstep tb N st z sp s = some (obs, s')) (ho : ∀ P ∈ obs, P) (hs : s'.H E N st rd Q) : s.H E N st rd Q := by
  have hreg : ∀ id ops draw K F L, VSt.H E N st rd Q (.code (.region id ops draw) K F L) = VW E N st rd (.region id ops draw) F L (KX E N st rd Q K) := fun _ _ _ _ _ _ => rfl
  unfold vstep at h
  split at h <;> (try cases h)
  · exact VW.seq (VW.mono hs fun e F L hk => by cases e <;> exact hk)
  · exact VW.block (VW.mono hs fun e F L hk => by cases e <;> exact hk)
  · exact VW.skip hs
  · exact VW.ret hs
  · exact VW.exit hs
  · exact VW.region hs
  · exact VW.draw hs
  · rename_i c a b K F L
    split at h
    · rename_i hc
      cases h
      exact VW.cond (t := true) (by unfold av; rw [hc]; rfl) (fun _ => hs) (fun e => by cases e)
    · rename_i hc
      cases h
      exact VW.cond (t := false) (by unfold av; rw [hc]; rfl) (fun e => by cases e) (fun _ => hs)
    · cases h
  · exact VO.nil hs
  · rename_i ops o rest K F L
    split at h
    · rename_i out hout
      cases h
      rcases vopStep_ok hout with ⟨hg, hgo⟩ | ⟨hg, hd, rfl⟩
      · obtain ⟨hd, h3⟩ := vopGo_ok hgo
        rcases h3 with ⟨r, hr, rfl⟩ | ⟨q, hq, hk, rfl⟩
        · exact VO.keep hT hg hd hr ho hs
        · exact VO.make hT hg hd hq ho hk hs
      · exact VO.drop hg hd hs
    · cases h
  · exact VD0.nil hs
  · rename_i ops bs ks o rest i K F L
    split at h
    · rename_i out hout
      cases hw : mayWrite ops bs ks i F o.op out with
      | false => rw [hw] at h; cases h
      | true =>
        rw [hw] at h
        cases h
        rcases vopStep_ok hout with ⟨hg, hgo⟩ | ⟨hg, hd, rfl⟩
        · obtain ⟨hd, h3⟩ := vopGo_ok hgo
          rcases h3 with ⟨r, hr, rfl⟩ | ⟨q, hq, hk, rfl⟩
          · exact VD0.keep hT hg hd hr ho (by
            change VSt.H E N st rd Q (.dops ops bs (ksOf ks 0 0 L L i) rest (i + 1) K _ L) at hs
            rw [ksOf_self] at hs; exact hs)
          · exact VD0.make hT hg hd hq ho hk hw hs
        · exact VD0.drop hg hd (by
          change VSt.H E N st rd Q (.dops ops bs (ksOf ks 0 0 L L i) rest (i + 1) K _ L) at hs
          rw [ksOf_self] at hs; exact hs)
    · cases h
  · exact hs
  · exact hs
  · exact hs
  · rename_i k id K F L
    show if k = id then _ else _
    cases hb : Nat.beq k id with
    | true =>
      rw [hb] at h; cases h
      rw [if_pos (beq_eq hb)]; exact hs
    | false =>
      rw [hb] at h; cases h
      rw [if_neg (fun e => by subst e; rw [Nat.beq_refl] at hb; cases hb)]; exact hs
  · exact hs
  · exact hs
  · exact hs
  · exact hs
theorem vrun_ok (hT : TabOK E tb = true) : ∀ (n : Nat) {acc obs : List Prop} {s s' : VSt}, vrun tb N st z sp n acc s = (obs, s') → (∀ P ∈ obs, P) → s'.H E N st rd Q → s.H E N st rd Q ∧ ∀ P ∈ acc, P
  | 0, acc, obs, s, s', h, ho, hs => by cases h; exact ⟨hs, ho⟩
  | n + 1, acc, obs, s, s', h, ho, hs => by
    unfold vrun at h
    split at h
    · cases h; exact ⟨hs, ho⟩
    · rename_i s1 h1
      obtain ⟨h2, h3⟩ := vrun_ok hT n h ho hs
      exact ⟨vstep_ok hT h1 (fun P hP => by cases hP) h2, h3⟩
    · rename_i p ps s1 h1
      obtain ⟨h2, h3⟩ := vrun_ok hT n h ho hs
      exact ⟨vstep_ok hT h1 (fun P hP => h3 P (List.mem_append_right _ hP)) h2, fun P hP => h3 P (List.mem_append_left _ hP)⟩
/-- Steps, until a call, a branch, a loop or the end. -/
theorem VSt.run (hT : TabOK E tb = true) (z : Bool) (sp : List Nat) (n : Nat) {obs : List Prop} {s s' : VSt} (h : vrun tb N st z sp n [] s = (obs, s')) (ho : AllP obs) (hs : s'.H E N st rd Q) : s.H E N st rd Q :=
  (vrun_ok hT n h ho.mem hs).1
theorem VSt.cond {c : Operand} {a b : Code} {K : List KI} {F : VK} {L : VS} {t : Bool} (hc : av F c = some (.p (.bool t))) (h1 : t = true → VSt.H E N st rd Q (.code a K F L)) (h2 : t = false → VSt.H E N st rd Q (.code b K F L)) : VSt.H E N st rd Q (.code (.cond c a b) K F L) := VW.cond hc h1 h2
theorem VSt.guard {ops : Array Oper} {o : Oper} {rest : List Oper} {K : List KI} {F : VK} {L : VS} {t : Bool} (hg : vgd ops F o.guard = some t) (hd : dstOk o.dst N = true) (h1 : t = true → VSt.H E N st rd Q (.ops ops (⟨o.dst, o.op, o.type, o.pos, o.after, none⟩ :: rest) K F L)) (h2 : t = false → VSt.H E N st rd Q (.ops ops rest K (vbind o.dst (.tup []) F) L)) : VSt.H E N st rd Q (.ops ops (o :: rest) K F L) := by
  cases t with
  | false => exact VO.drop hg hd (h2 rfl)
  | true =>
    have h3 := h1 rfl
    intro T S Z j k1 k2 k3 k4
    obtain ⟨n, r, k5, k6⟩ := h3 T S Z j k1 k2 k3 k4
    refine ⟨n, r, fun m hm => ?_, k6⟩
    rw [← k5 m hm]
    show ob (stepL E _ _ ops o T S) _ = ob (stepL E _ _ ops ⟨o.dst, o.op, o.type, o.pos, o.after, none⟩ T S) _
    unfold stepL
    rw [vgd_ok hg k3]; rfl
theorem VSt.viewC {c : Code} {K : List KI} {F F0 : VK} {L L0 : VS} (hw : Vw E st F L F0 L0) (h : VSt.H E N st rd Q (.code c K F0 L0)) : VSt.H E N st rd Q (.code c K F L) := by
  intro T S Z j h1 h2 h3 h4
  obtain ⟨Z', j', k1, k2, k3, k4⟩ := hw T S Z j h2 h3
  obtain ⟨n, r, h5, F', L', Z2, j2, h6, h7⟩ := h T S Z' j' h1 k1 k2 h4
  exact ⟨n, r, h5, F', L', Z2, j2, ⟨h6.n, h6.sr, h6.fr, k3.trans h6.ex, h6.low, k4.trans h6.stay⟩, h7⟩
theorem VSt.viewO {ops : Array Oper} {rest : List Oper} {K : List KI} {F F0 : VK} {L L0 : VS} (hw : Vw E st F L F0 L0) (h : VSt.H E N st rd Q (.ops ops rest K F0 L0)) : VSt.H E N st rd Q (.ops ops rest K F L) := by
  intro T S Z j h1 h2 h3 h4
  obtain ⟨Z', j', k1, k2, k3, k4⟩ := hw T S Z j h2 h3
  obtain ⟨n, r, h5, F', L', Z2, j2, h6, h7⟩ := h T S Z' j' h1 k1 k2 h4
  exact ⟨n, r, h5, F', L', Z2, j2, ⟨h6.n, h6.sr, h6.fr, k3.trans h6.ex, h6.low, k4.trans h6.stay⟩, h7⟩
/-- A truth value told, in both ways. -/
theorem Vw.tell {F : VK} {L : VS} {d : Nat} {t : Bool} (h : ak F d = some (.p (.bool t))) : Vw E st F L ((d, .lit t) :: F) L := fun T S Z j h1 h2 => ⟨Z, j, h1, fun x a ha => by
  simp only [ak] at ha
  by_cases e : d = x
  · subst e
    simp only [Nat.beq_refl, cond_true, Option.some.injEq] at ha
    subst ha
    obtain ⟨v, h3, h4⟩ := h2 d _ h
    cases h4 with
    | p h4 => cases h4; exact ⟨_, h3, .lit t⟩
  · rw [bne e] at ha
    exact h2 x a ha, Ex.refl _ _ _, Stay.refl _ _⟩
theorem VSt.splitO {ops : Array Oper} {rest : List Oper} {K : List KI} {F : VK} {L : VS} (d : Nat) {t : Bool} (h : ak F d = some (.p (.bool t))) (h1 : t = true → VSt.H E N st rd Q (.ops ops rest K ((d, .lit true) :: F) L)) (h2 : t = false → VSt.H E N st rd Q (.ops ops rest K ((d, .lit false) :: F) L)) : VSt.H E N st rd Q (.ops ops rest K F L) := by
  cases t with
  | true => exact VSt.viewO (Vw.tell h) (h1 rfl)
  | false => exact VSt.viewO (Vw.tell h) (h2 rfl)
theorem VSt.splitD {ops : Array Oper} {bs : List Nat} {ks : List (Nat × Option Nat)} {i : Nat} {rest : List Oper} {K : List KI} {F : VK} {L : VS} (d : Nat) {t : Bool} (h : ak F d = some (.p (.bool t))) (h1 : t = true → VSt.H E N st rd Q (.dops ops bs ks rest i K ((d, .lit true) :: F) L)) (h2 : t = false → VSt.H E N st rd Q (.dops ops bs ks rest i K ((d, .lit false) :: F) L)) : VSt.H E N st rd Q (.dops ops bs ks rest i K F L) := by
  have key : VSt.H E N st rd Q (.dops ops bs ks rest i K ((d, .lit t) :: F) L) := by
    cases t with
    | true => exact h1 rfl
    | false => exact h2 rfl
  intro T S Z j D r0 k1 k2 k3 k4 k5 k6 k7
  obtain ⟨n, r, k8, F', L', Z2, j2, k9, k10⟩ := key T S Z j D r0 k1 k2 (by
    intro x a ha
    simp only [ak] at ha
    by_cases e : d = x
    · subst e
      simp only [Nat.beq_refl, cond_true, Option.some.injEq] at ha
      subst ha
      obtain ⟨v, h3, h4⟩ := k3 d _ h
      cases h4 with
      | p h4 => cases h4; exact ⟨_, h3, .lit t⟩
    · rw [bne e] at ha
      exact k3 x a ha) k4 k5 k6 k7
  exact ⟨n, r, k8, F', L', Z2, j2, ⟨k9.n, k9.sr, k9.fr, k9.ex, k9.low, k9.stay⟩, k10⟩
theorem VSt.loop {α : Type} {b : Code} {K : List KI} (I : α → VK → VS → Prop) (μ : α → Nat) (x : α) {F F0 : VK} {L L0 : VS} (hw : Vw E st F L F0 L0) (hI : I x F0 L0)
    (hb : ∀ x F L, I x F L → VSt.H E N st rd Q (.code b (.inv (fun F' L' => ∃ y F0 L0, Vw E st F' L' F0 L0 ∧ I y F0 L0 ∧ μ y < μ x) :: K) F L)) : VSt.H E N st rd Q (.code (.loop b) K F L) :=
  VW.view hw (VW.loop I μ (fun x F L hI => VW.mono (hb x F L hI) fun e F' L' hk => by cases e <;> exact hk) x F0 L0 hI)
/-- A call of a function that only returns a value. -/
theorem VSt.pcall {ops : Array Oper} {o : Oper} {rest : List Oper} {K : List KI} {F : VK} {L : VS} {c : Call} {f : Operand} {g : FuncId} {first cap args : List AV} {r : AV} (hP : VP E g (first ++ (args ++ cap)) r) (hg : vgl ops F o.guard = some true) (hd : dstOk o.dst N = true)
    (hop : o.op = .call c) (hc : c.callee = .value f) (hf : av F f = some (.fn g first cap)) (ha : avs F c.args.toList = some args) (hon : AV.onlys (olds []) (first ++ (args ++ cap)) = true)
    (h : VSt.H E N st rd Q (.ops ops rest K (vbind o.dst r F) L)) : VSt.H E N st rd Q (.ops ops (o :: rest) K F L) := by
  refine VO.call (ps := []) (Lc := []) (stc := []) (vgl_ok hg) hd hop hc hf ha rfl rfl rfl hon (rens_id _ hon) hP.2 ?_
  rintro a L' ⟨rfl, rfl⟩
  rw [ren_only _ hP.1, takeS_nil]
  exact h
theorem VSt.pcallD {ops : Array Oper} {bs : List Nat} {ks : List (Nat × Option Nat)} {i : Nat} {o : Oper} {rest : List Oper} {K : List KI} {F : VK} {L : VS} {c : Call} {f : Operand} {g : FuncId} {first cap args : List AV} {r : AV} (hP : VP E g (first ++ (args ++ cap)) r) (hg : vgl ops F o.guard = some true) (hd : dstOk o.dst N = true)
    (hop : o.op = .call c) (hc : c.callee = .value f) (hf : av F f = some (.fn g first cap)) (ha : avs F c.args.toList = some args) (hon : AV.onlys (olds []) (first ++ (args ++ cap)) = true)
    (h : VSt.H E N st rd Q (.dops ops bs ks rest (i + 1) K (vbind o.dst r F) L)) : VSt.H E N st rd Q (.dops ops bs ks (o :: rest) i K F L) := by
  refine VD0.call (ps := []) (Lc := []) (stc := []) (vgl_ok hg) hd hop hc hf ha rfl rfl rfl hon (rens_id _ hon) hP.2 rfl ?_
  rintro a L' ⟨rfl, rfl⟩
  rw [ren_only _ hP.1, takeS_nil]
  exact h
end
end
end Go.Proofs.YtncpeobcgmkkbaaGreat
/- Walks over values: freezing; bodies. -/
namespace Go.Proofs.YtncpeobcgmkkbaaGreat
noncomputable section

/-- A block that is written no more: slices of it become lists. -/
def frz1 (i n : Nat) (f : Nat → List PV) (t : TypeId) (a : AV) : AV := match a with
  | .sl k sz off m c ex => bif Nat.beq k i then .p (.lst t false m fun x => f (off + x)) else .sl k sz off m c ex
  | .acc nb k sz m => bif Nat.beq k i then .p (.lst t (nb && Nat.beq m 0) m f) else .acc nb k sz m
  | a => purge1 i a
def frzL (fz : AV → AV) : List AV → List AV
  | [] => []
  | a :: l => fz a :: frzL fz l
def frzA (fz : AV → AV) (a : AV) : AV := match a with
  | .agg cs => .agg (frzL fz cs)
  | .tup cs => .tup (frzL fz cs)
  | .fn g x y => .fn g (frzL fz x) (frzL fz y)
  | a => fz a
def frzF (fz : AV → AV) : VK → VK
  | [] => []
  | (x, a) :: l => (x, frzA fz a) :: frzF fz l
def frzB (fz : AV → AV) : VB → VB
  | .cells cs ty => .cells (frzL fz cs) ty
  | .arr m sz g ty => .arr m sz g ty
  | .loop st pd G N ps asg body => .loop st pd (frzF fz G) N ps asg body
  | .acc m sz g ty => .acc m sz g ty
  | .mapI f => .mapI f
def frzS (fz : AV → AV) : VS → VS
  | [] => []
  | (k, v) :: l => (k, frzB fz v) :: frzS fz l
/-- A block of cells that is written no more: pointers into it lead to values. -/
def frz2 (i : Nat) (ps : List PV) (a : AV) : AV := match a with
  | .ref k off => bif Nat.beq k i then .p (.fp ps off) else .ref k off
  | a => purge1 i a
/-- What is asked of the slices. -/
def fo1 (i n s : Nat) (a : AV) : List Prop := match a with
  | .sl k sz off m c _ => bif Nat.beq k i then [off + m ≤ n, m ≤ c, sz = s] else []
  | .acc _ k sz m => bif Nat.beq k i then [m ≤ n, sz = s] else []
  | _ => []
def fo2 (_ : AV) : List Prop := []
def foL (fo : AV → List Prop) : List AV → List Prop
  | [] => []
  | a :: l => fo a ++ foL fo l
def foA (fo : AV → List Prop) (a : AV) : List Prop := match a with
  | .agg cs => foL fo cs
  | .tup cs => foL fo cs
  | .fn _ x y => foL fo x ++ foL fo y
  | a => fo a
def foF (fo : AV → List Prop) : VK → List Prop
  | [] => []
  | (_, a) :: l => foA fo a ++ foF fo l
def foB (fo : AV → List Prop) : VB → List Prop
  | .cells cs _ => foL fo cs
  | .arr _ _ _ _ => []
  | .loop _ _ G _ _ _ _ => foF fo G
  | .acc _ _ _ _ => []
  | .mapI _ => []
def foS (fo : AV → List Prop) : VS → List Prop
  | [] => []
  | (_, v) :: l => foB fo v ++ foS fo l
section
variable {E : Env} {S : St} {Z : Nat → Prop} {j : Nm} {L : VS} {F : VK} {T : Fr} {i n sz b : Nat} {f : Nat → List PV} {t : TypeId}
abbrev ZB (Z : Nat → Prop) (b : Nat) : Nat → Prop := fun c => Z c ∨ c = b
theorem zle_b : ZLe E S Z S (ZB Z b) := fun c hc => ⟨.inl hc, rfl⟩
theorem frz1_ok (hr : E.rom.get b = none) (hj : j i = some b) (hb : BR E S Z j b (.arr n sz f t)) {a : AV} {v : Value} (hv : VR E S Z j a v) (ho : ∀ P ∈ fo1 i n sz a, P) : VR E S (ZB Z b) (jrm j i) (frz1 i n f t a) v := by
  unfold frz1
  split
  · rename_i k sz' off m c ex
    cases hk : Nat.beq k i with
    | false =>
      simp only [cond_false]
      exact hv.mono (g := fun x => !Nat.beq x i) zle_b (fun x b' hg hx => jrm_le x b' (fun e => by subst e; simp at hg) hx) (by show (!Nat.beq k i) = true; rw [hk]; rfl)
    | true =>
      simp only [cond_true]
      have := beq_eq hk; subst this
      simp only [fo1, Nat.beq_refl, cond_true] at ho
      have o1 := ho (off + m ≤ n) (by simp)
      have o2 := ho (m ≤ c) (by simp)
      have o3 := ho (sz' = sz) (by simp)
      subst o3
      cases hv with
      | sl h =>
        rw [hj] at h; cases h
        obtain ⟨vs, g, h1, h2, h3, h4⟩ := hb
        refine .p (.lst (sz := sz') (fun x => g (off + x)) (.inr rfl) ((rdc_none hr).trans h1) o2 ?_ (.inr ⟨rfl, hr⟩) (fun x hx => ?_) (fun x hx => (h4 _ (by omega)).mono zle_b))
        · rw [h2]; exact Nat.mul_le_mul_right _ (by omega)
        · rw [← Nat.add_mul]; exact h3 _ (by omega)
  · rename_i nb k sz' m
    cases hk : Nat.beq k i with
    | false =>
      simp only [cond_false]
      exact hv.mono (g := fun x => !Nat.beq x i) zle_b (fun x b' hg hx => jrm_le x b' (fun e => by subst e; simp at hg) hx) (by show (!Nat.beq k i) = true; rw [hk]; rfl)
    | true =>
      simp only [cond_true]
      have := beq_eq hk; subst this
      simp only [fo1, Nat.beq_refl, cond_true] at ho
      have o1 := ho (m ≤ n) (by simp)
      have o3 := ho (sz' = sz) (by simp)
      subst o3
      cases hv with
      | accN => exact .p (.nil _ _)
      | accE h1 h2 h3 => exact .p (.lst (sz := 0) (fun _ => []) (.inl h1) h2 (Nat.zero_le _) h3 (.inl rfl) (fun k hk => absurd hk (Nat.not_lt_zero k)) (fun k hk => absurd hk (Nat.not_lt_zero k)))
      | accC h =>
        rename_i m b'
        rw [hj] at h; cases h
        obtain ⟨vs, g, h1, h2, h3, h4⟩ := hb
        show VR E S _ _ (.p (.lst t (nb && false) (m + 1) f)) _
        rw [Bool.and_false]
        refine .p (.lst (sz := sz') g (.inr rfl) ((rdc_none hr).trans h1) (Nat.le_refl _) (Nat.zero_le _) (.inr ⟨rfl, hr⟩) (fun x hx => ?_) (fun x hx => (h4 _ (by omega)).mono zle_b))
        rw [Nat.zero_add]; exact h3 _ (by omega)
  · exact purge1_ok zle_b jrm_le hv
/-- A list that grows and has nothing yet. -/
theorem frz0_ok (ho0 : n = 0) {a : AV} {v : Value} (hv : VR E S Z j a v) (ho : ∀ P ∈ fo1 i n sz a, P) (hsl : ∀ k sz' o m c ex, a = .sl k sz' o m c ex → Nat.beq k i = false) : VR E S Z (jrm j i) (frz1 i n f t a) v := by
  have zr : ZLe E S Z S Z := fun c hc => ⟨hc, rfl⟩
  unfold frz1
  split
  · rename_i k sz' off m c ex
    rw [hsl _ _ _ _ _ _ rfl]
    simp only [cond_false]
    exact hv.mono (g := fun x => !Nat.beq x i) zr (fun x b' hg hx => jrm_le x b' (fun e => by subst e; simp at hg) hx) (by show (!Nat.beq k i) = true; rw [hsl _ _ _ _ _ _ rfl]; rfl)
  · rename_i nb k sz' m
    cases hk : Nat.beq k i with
    | false =>
      simp only [cond_false]
      exact hv.mono (g := fun x => !Nat.beq x i) zr (fun x b' hg hx => jrm_le x b' (fun e => by subst e; simp at hg) hx) (by show (!Nat.beq k i) = true; rw [hk]; rfl)
    | true =>
      simp only [cond_true]
      have := beq_eq hk; subst this
      simp only [fo1, Nat.beq_refl, cond_true] at ho
      have o1 := ho (m ≤ n) (by simp)
      cases hv with
      | accN => exact .p (.nil _ _)
      | accE h1 h2 h3 => exact .p (.lst (sz := 0) (fun _ => []) h1 h2 (Nat.zero_le _) h3 (.inl rfl) (fun k hk => absurd hk (Nat.not_lt_zero k)) (fun k hk => absurd hk (Nat.not_lt_zero k)))
      | accC h => omega
  · exact purge1_ok zr jrm_le hv
/-- As fo1; slices only by .acc. -/
def fo3 (i n s : Nat) (a : AV) : List Prop := match a with
  | .sl k _ _ _ _ _ => bif Nat.beq k i then [False] else []
  | .acc _ k sz m => bif Nat.beq k i then [m ≤ n, sz = s] else []
  | _ => []
theorem fo31 {a : AV} (h : ∀ P ∈ fo3 i n sz a, P) : ∀ P ∈ fo1 i n sz a, P := by
  cases a with
  | sl k sz' off m c ex =>
    change ∀ P ∈ (bif Nat.beq k i then [False] else []), P at h
    change ∀ P ∈ (bif Nat.beq k i then [off + m ≤ n, m ≤ c, sz' = sz] else []), P
    cases hk : Nat.beq k i with
    | false => intro P hP; simp only [cond_false] at hP; cases hP
    | true => rw [hk] at h; exact (h False (by simp)).elim
  | _ => exact h
theorem vrs_pure : ∀ {ps : List PV} {vs : List Value}, VRs E S Z j (ps.map .p) vs → PRs E S Z ps vs
  | [], _, .nil => .nil
  | _ :: _, _, .cons (.p h) hl => .cons h (vrs_pure hl)
theorem frz2_ok {ps : List PV} (hr : E.rom.get b = none) (hj : j i = some b) (hb : BR E S Z j b (.cells (ps.map .p) t)) {a : AV} {v : Value} (hv : VR E S Z j a v) (_ : ∀ P ∈ fo2 a, P) : VR E S (ZB Z b) (jrm j i) (frz2 i ps a) v := by
  unfold frz2
  split
  · rename_i k off _
    cases hk : Nat.beq k i with
    | false =>
      simp only [cond_false]
      exact hv.mono (g := fun x => !Nat.beq x i) zle_b (fun x b' hg hx => jrm_le x b' (fun e => by subst e; simp at hg) hx) (by show (!Nat.beq k i) = true; rw [hk]; rfl)
    | true =>
      simp only [cond_true]
      have := beq_eq hk; subst this
      cases hv with
      | ref h =>
        rw [hj] at h; cases h
        obtain ⟨vs, h1, h2, h3⟩ := hb
        have h4 := vrs_pure h3
        have hl : ps.length = vs.length := by have := h3.length; simpa using this
        have key : VR E S (ZB Z b) (jrm j k) (.p (.fp ps off)) (.pointer (some ⟨b, 0 + off, none⟩)) := .p (.fp (.inr rfl) ((rdc_none hr).trans h1) (by rw [hl]; exact cut_all _) (h4.mono zle_b))
        rw [Nat.zero_add] at key
        exact key
  · exact purge1_ok zle_b jrm_le hv
variable {fz : AV → AV} {fo : AV → List Prop} {Z' : Nat → Prop}
theorem frzL_ok (h1 : ∀ {a : AV} {v : Value}, VR E S Z j a v → (∀ P ∈ fo a, P) → VR E S Z' (jrm j i) (fz a) v) : ∀ {a : List AV} {v : List Value}, VRs E S Z j a v → (∀ P ∈ foL fo a, P) → VRs E S Z' (jrm j i) (frzL fz a) v
  | _, _, .nil, _ => .nil
  | _, _, .cons h hl, ho => .cons (h1 h fun P hP => ho P (List.mem_append_left _ hP)) (frzL_ok h1 hl fun P hP => ho P (List.mem_append_right _ hP))
theorem frzA_ok (h1 : ∀ {a : AV} {v : Value}, VR E S Z j a v → (∀ P ∈ fo a, P) → VR E S Z' (jrm j i) (fz a) v) {a : AV} {v : Value} (hv : VR E S Z j a v) (ho : ∀ P ∈ foA fo a, P) : VR E S Z' (jrm j i) (frzA fz a) v := by
  cases a with
  | agg cs => cases hv with | agg hs h => exact .agg hs (frzL_ok h1 h ho)
  | tup cs => cases hv with | tup h => exact .tup (frzL_ok h1 h ho)
  | fn g x y => cases hv with | fn ha hb => exact .fn (frzL_ok h1 ha fun P hP => ho P (List.mem_append_left _ hP)) (frzL_ok h1 hb fun P hP => ho P (List.mem_append_right _ hP))
  | _ => exact h1 hv ho
theorem ak_frzF : ∀ {F : VK} {k : Nat} {v : AV}, ak (frzF fz F) k = some v → (∀ P ∈ foF fo F, P) → ∃ w, ak F k = some w ∧ v = frzA fz w ∧ ∀ P ∈ foA fo w, P
  | [], k, v, h, _ => by cases h
  | (s, x) :: l, k, v, h, ho => by
    simp only [frzF, ak] at h ⊢
    by_cases e : s = k
    · subst e
      simp only [Nat.beq_refl, cond_true] at h ⊢
      cases h; exact ⟨x, rfl, rfl, fun P hP => ho P (List.mem_append_left _ hP)⟩
    · rw [show Nat.beq s k = false by rw [Tr.beq_def]; simpa using e] at h ⊢
      exact ak_frzF h fun P hP => ho P (List.mem_append_right _ hP)
theorem bk_frzS : ∀ {L : VS} {k : Nat}, (bk (frzS fz L) k = none → bk L k = none) ∧ ∀ v, bk (frzS fz L) k = some v → (∀ P ∈ foS fo L, P) → ∃ w, bk L k = some w ∧ v = frzB fz w ∧ ∀ P ∈ foB fo w, P
  | [], k => ⟨fun _ => rfl, fun v h => by cases h⟩
  | (s, x) :: l, k => by
    simp only [frzS]
    rw [bk_cons, bk_cons]
    by_cases e : k = s
    · rw [if_pos e, if_pos e]
      refine ⟨fun h => (by cases h), fun v h ho => ⟨x, rfl, ?_, fun P hP => ho P (List.mem_append_left _ hP)⟩⟩
      cases h; rfl
    · rw [if_neg e, if_neg e]
      refine ⟨(bk_frzS (L := l)).1, fun v h ho => (bk_frzS (L := l)).2 v h fun P hP => ho P (List.mem_append_right _ hP)⟩
end
theorem Vw.freezeG {E : Env} {st : List Nat} {F : VK} {L : VS} {fz : AV → AV} {fo : AV → List Prop} (i : Nat) (hz : ∀ {S : St} {Z : Nat → Prop} {j : Nm}, SR E S Z j L → ∃ Z' : Nat → Prop, (∀ c, Z c → Z' c) ∧ (∀ c, Z' c → Z c ∨ j i = some c) ∧
      ∀ {a : AV} {v : Value}, VR E S Z j a v → (∀ P ∈ fo a, P) → VR E S Z' (jrm j i) (fz a) v) (hst : (st.all fun k => !Nat.beq k i) = true) (ho : AllP (foF fo F ++ foS fo (rm L i))) :
    Vw E st F L (frzF fz F) (frzS fz (rm L i)) := by
  intro T S Z j hS hF
  obtain ⟨Z', z1, z2, hfz⟩ := hz hS
  have hoF : ∀ P ∈ foF fo F, P := fun P hP => ho.mem P (List.mem_append_left _ hP)
  have hoS : ∀ P ∈ foS fo (rm L i), P := fun P hP => ho.mem P (List.mem_append_right _ hP)
  have hzl : ZLe E S Z S Z' := fun c hc => ⟨z1 c hc, rfl⟩
  refine ⟨Z', jrm j i, ⟨fun c hc => ?_, fun k c hk => ?_, fun k k' c hk hk' => ?_, fun k hk => ?_, fun k vb hk => ?_, fun c q hc => ⟨(hS.rom c q hc).1, fun k hk => (by
    unfold jrm at hk
    split at hk
    · cases hk
    · exact (hS.rom c q hc).2 k hk)⟩⟩, fun x a ha => ?_, ⟨Nat.le_refl _, fun _ _ _ => rfl, z1, fun c hc => ?_, fun k c hk => ?_, Nat.le_refl _, fun _ h _ _ => h⟩, fun k hk c hc => ?_⟩
  · rcases z2 c hc with hc | hc
    · exact hS.zlt c hc
    · exact (hS.jlt i _ hc).1
  · unfold jrm at hk
    split at hk
    · cases hk
    · rename_i e
      refine ⟨(hS.jlt k c hk).1, fun h => ?_⟩
      rcases z2 c h with h | h
      · exact (hS.jlt k c hk).2 h
      · exact e (hS.inj _ _ _ hk h)
  · unfold jrm at hk hk'
    split at hk
    · cases hk
    · split at hk'
      · cases hk'
      · exact hS.inj _ _ _ hk hk'
  · have := (bk_frzS (fo := fo) (fz := fz)).1 hk
    rw [bk_rm] at this
    unfold jrm
    split at this
    · rename_i e; rw [if_pos e]
    · rename_i e; rw [if_neg e]; exact hS.dom k this
  · obtain ⟨w, h1, rfl, h2⟩ := (bk_frzS (fo := fo) (fz := fz)).2 vb hk hoS
    rw [bk_rm] at h1
    split at h1
    · cases h1
    · rename_i e
      rcases hS.blk' k w h1 with hv | ⟨c, h3, h4⟩
      · exact .inl (by cases w <;> exact hv)
      refine .inr ⟨c, jrm_le k c e h3, ?_⟩
      cases w with
      | cells cs ty =>
        obtain ⟨vs, h5, h6, h7⟩ := h4
        exact ⟨vs, h5, h6, frzL_ok hfz h7 h2⟩
      | arr m s g ty =>
        obtain ⟨vs, gg, h5, h6, h7, h8⟩ := h4
        exact ⟨vs, gg, h5, h6, h7, fun x hx => (h8 x hx).mono hzl⟩
      | loop st pd G N ps asg body =>
        obtain ⟨T0, h5, h6, h7⟩ := h4
        refine ⟨T0, h5, h6, fun x a ha => ?_⟩
        obtain ⟨w, k1, rfl, k2⟩ := ak_frzF (fo := fo) ha h2
        obtain ⟨v, k3, k4⟩ := h7 x w k1
        exact ⟨v, k3, frzA_ok hfz k4 k2⟩
      | acc m s g ty =>
        obtain ⟨vs, gg, h5, h6, h7, h8⟩ := h4
        exact ⟨vs, gg, h5, h6, h7, fun x hx => (h8 x hx).mono hzl⟩
      | mapI f =>
        obtain ⟨l, h5, h6⟩ := h4
        exact ⟨l, h5, h6⟩
  · obtain ⟨w, h1, rfl, h2⟩ := ak_frzF (fo := fo) ha hoF
    obtain ⟨v, h3, h4⟩ := hF x w h1
    exact ⟨v, h3, frzA_ok hfz h4 h2⟩
  · rcases z2 c hc with hc | hc
    · exact .inl hc
    · exact .inr (.inr ⟨i, hc⟩)
  · unfold jrm at hk
    split at hk
    · cases hk
    · exact .inr ⟨k, hk⟩
  · refine jrm_le k c (fun e => ?_) hc
    subst e
    have := List.all_eq_true.1 hst k hk
    rw [Nat.beq_refl] at this; cases this
theorem SR.unrom {E : Env} {S : St} {Z : Nat → Prop} {j : Nm} {L : VS} {i b : Nat} (hS : SR E S Z j L) (hj : j i = some b) : E.rom.get b = none := by
  cases h : E.rom.get b with
  | none => rfl
  | some q => exact absurd hj ((hS.rom b q h).2 i)
theorem frzB_z {E : Env} {L : VS} {fz : AV → AV} {fo : AV → List Prop} {i : Nat} {vb : VB} (hb : bk L i = some vb) (hv : ¬ vb.void) (hfz : ∀ {S : St} {Z : Nat → Prop} {j : Nm} {b : Nat}, E.rom.get b = none → j i = some b → BR E S Z j b vb → ∀ {a : AV} {v : Value}, VR E S Z j a v → (∀ P ∈ fo a, P) → VR E S (ZB Z b) (jrm j i) (fz a) v) {S : St} {Z : Nat → Prop} {j : Nm} (hS : SR E S Z j L) :
    ∃ Z' : Nat → Prop, (∀ c, Z c → Z' c) ∧ (∀ c, Z' c → Z c ∨ j i = some c) ∧ ∀ {a : AV} {v : Value}, VR E S Z j a v → (∀ P ∈ fo a, P) → VR E S Z' (jrm j i) (fz a) v := by
  obtain ⟨b, hj, hbr⟩ := hS.blk i _ hb hv
  exact ⟨ZB Z b, fun c hc => .inl hc, fun c hc => hc.imp id (fun h => by rw [h]; exact hj), fun hv ho => hfz (hS.unrom hj) hj hbr hv ho⟩
theorem Vw.freeze {E : Env} {st : List Nat} {F : VK} {L : VS} (i : Nat) {n sz : Nat} {f : Nat → List PV} {t : TypeId} (hb : bk L i = some (.arr n sz f t)) (hst : (st.all fun k => !Nat.beq k i) = true) (ho : AllP (foF (fo1 i n sz) F ++ foS (fo1 i n sz) (rm L i))) :
    Vw E st F L (frzF (frz1 i n f t) F) (frzS (frz1 i n f t) (rm L i)) := Vw.freezeG i (frzB_z hb id (fun hr hj hb _ _ hv ho => frz1_ok hr hj hb hv ho)) hst ho
theorem Vw.freezeA {E : Env} {st : List Nat} {F : VK} {L : VS} (i : Nat) {n sz : Nat} {f : Nat → List PV} {t : TypeId} (hb : bk L i = some (.acc n sz f t)) (hst : (st.all fun k => !Nat.beq k i) = true) (ho : AllP (foF (fo3 i n sz) F ++ foS (fo3 i n sz) (rm L i))) :
    Vw E st F L (frzF (frz1 i n f t) F) (frzS (frz1 i n f t) (rm L i)) := by
  refine Vw.freezeG (fo := fo3 i n sz) i (fun {S Z j} hS => ?_) hst ho
  by_cases hn : n = 0
  · refine ⟨Z, fun c hc => hc, fun c hc => .inl hc, fun {a v} hv ho => frz0_ok hn hv (fo31 ho) ?_⟩
    rintro k sz' o m c ex rfl
    cases hk : Nat.beq k i with
    | false => rfl
    | true => exact (ho False (by show False ∈ (bif Nat.beq k i then [False] else []); rw [hk]; simp)).elim
  · obtain ⟨b, hj, hbr⟩ := hS.blk i _ hb hn
    exact ⟨ZB Z b, fun c hc => .inl hc, fun c hc => hc.imp id (fun h => by rw [h]; exact hj), fun hv ho => frz1_ok (hS.unrom hj) hj hbr hv (fo31 ho)⟩
/-- A list that is to grow: nothing yet. -/
theorem Vw.adopt {E : Env} {st : List Nat} {F : VK} {L : VS} (i sz : Nat) (f : Nat → List PV) (t : TypeId) (hi : bk L i = none) : Vw E st F L F ((i, .acc 0 sz f t) :: L) := fun T S Z j h1 h2 =>
  ⟨Z, j, ⟨h1.zlt, h1.jlt, h1.inj, fun k hk => by
    rw [bk_cons] at hk
    split at hk
    · cases hk
    · exact h1.dom k hk, fun k vb hk => by
    rw [bk_cons] at hk
    split at hk
    · cases hk; exact .inl rfl
    · exact h1.blk' k vb hk, h1.rom⟩, h2, Ex.refl _ _ _, Stay.refl _ _⟩
theorem Vw.freezeC {E : Env} {st : List Nat} {F : VK} {L : VS} (i : Nat) (ps : List PV) {t : TypeId} (hb : bk L i = some (.cells (ps.map .p) t)) (hst : (st.all fun k => !Nat.beq k i) = true) :
    Vw E st F L (frzF (frz2 i ps) F) (frzS (frz2 i ps) (rm L i)) := Vw.freezeG (fo := fo2) i (frzB_z hb id (fun hr hj hb _ _ hv ho => frz2_ok hr hj hb hv ho)) hst (by
  have h1 : ∀ l, foL fo2 l = [] := fun l => by induction l with | nil => rfl | cons a l ih => exact ih
  have h3 : ∀ F, foF fo2 F = [] := fun F => by
    induction F with
    | nil => rfl
    | cons a l ih =>
      obtain ⟨k, v⟩ := a
      show foA fo2 v ++ foF fo2 l = []
      rw [ih]
      cases v <;> first | rfl | (show foL fo2 _ ++ [] = []; rw [h1]; rfl) | (show (foL fo2 _ ++ foL fo2 _) ++ [] = []; rw [h1, h1]; rfl)
  have h2 : ∀ L, foS fo2 L = [] := fun L => by
    induction L with
    | nil => rfl
    | cons a l ih =>
      obtain ⟨k, v⟩ := a
      show foB fo2 v ++ foS fo2 l = []
      rw [ih]
      cases v with
      | cells cs t => show foL fo2 cs ++ [] = []; rw [h1]; rfl
      | arr _ _ _ _ => rfl
      | loop _ _ G _ _ _ _ => show foF fo2 G ++ [] = []; rw [h3]; rfl
      | acc _ _ _ _ => rfl
      | mapI _ => rfl
  rw [h2, h3]; trivial)

/-- The arguments as a frame. -/
def argK : List AV → Nat → VK
  | [], _ => []
  | v :: vs, i => (i, v) :: argK vs (i + 1)
theorem argK_frr {E : Env} {S : St} {Z : Nat → Prop} {j : Nm} : ∀ (as : List AV) (vs : List Value) (i : Nat) (t : Tr Value) (n : Nat), VRs E S Z j as vs → FRR E S Z j (argK as i) ⟨n, setAll vs i t⟩
  | [], vs, i, t, n, h, k, a, ha => by cases ha
  | a0 :: as, vs, i, t, n, h, k, a, ha => by
    cases h with
    | cons h hl =>
      rename_i u vs
      have hset : setAll (u :: vs) i t = setAll vs (i + 1) (t.set i u) := rfl
      have hkeep : ∀ (vs : List Value) (i : Nat) (t : Tr Value) (k : Nat), k < i → (setAll vs i t).get k = t.get k := by
        intro vs
        induction vs with
        | nil => intro i t k _; rfl
        | cons w ws ih =>
          intro i t k hk
          show (setAll ws (i + 1) (t.set i w)).get k = _
          rw [ih _ _ _ (by omega), Tr.get_set, if_neg (by omega)]
      show ∃ v, (setAll (u :: vs) i t).get k = some v ∧ _
      rw [hset]
      simp only [argK, ak, Tr.beq_def] at ha
      by_cases e : i = k
      · subst e
        simp only [decide_true, cond_true, Option.some.injEq] at ha
        subst ha
        refine ⟨u, ?_, h⟩
        rw [hkeep _ _ _ _ (by omega), Tr.get_set, if_pos rfl]
      · simp only [e, decide_false, cond_false] at ha
        exact argK_frr as vs (i + 1) _ n hl k a ha
def vres (tb : Tab) (F : VK) (L : VS) : List ResultVar → Option (List AV)
  | [] => some []
  | .tmp t :: rs => match ak F t, vres tb F L rs with
    | some a, some l => some (unl a :: l)
    | _, _ => none
  | .cell a t :: rs => match ak F a, vres tb F L rs with
    | some p, some l => match vload tb L t p with
      | some ([], x) => some (x :: l)
      | _ => none
    | _, _ => none
theorem vres_ok {E : Env} {tb : Tab} {S : St} {Z : Nat → Prop} {j : Nm} {L : VS} {F : VK} {T : Fr} (hT : TabOK E tb = true) (hS : SR E S Z j L) (hF : FRR E S Z j F T) : ∀ {rs : List ResultVar} {l : List AV}, vres tb F L rs = some l → ∃ vs, resultsL E T S rs = some vs ∧ VRs E S Z j l vs
  | [], l, h => by cases h; exact ⟨[], rfl, .nil⟩
  | .tmp t :: rs, l, h => by
    simp only [vres] at h
    split at h
    · rename_i a l0 ha hl
      cases h
      obtain ⟨v, h1, h2⟩ := hF t a ha
      obtain ⟨vs, h3, h4⟩ := vres_ok hT hS hF hl
      refine ⟨v :: vs, ?_, .cons h2.unl h4⟩
      show ob (T.t.get t) _ = _
      rw [h1]
      show ob (resultsL E T S rs) _ = _
      rw [h3]; rfl
    · cases h
  | .cell p t :: rs, l, h => by
    simp only [vres] at h
    split at h
    · rename_i a l0 ha hl
      split at h
      · rename_i x hx
        cases h
        obtain ⟨v, h1, h2⟩ := hF p a ha
        obtain ⟨q, u, rfl, h5, h6⟩ := vload_ok hT hx (fun P hP => by cases hP) hS h2
        obtain ⟨vs, h3, h4⟩ := vres_ok hT hS hF hl
        refine ⟨u :: vs, ?_, .cons h6 h4⟩
        show ob (ob (ob (T.t.get p) addrOf) fun p => loadVarL E t p S) _ = _
        rw [h1]
        show ob (loadVarL E t q S) _ = _
        rw [h5]
        show ob (resultsL E T S rs) _ = _
        rw [h3]; rfl
      · cases h
    · cases h
def oneA : List AV → AV
  | [a] => a
  | l => .tup l
theorem oneA_ok {E : Env} {S : St} {Z : Nat → Prop} {j : Nm} {l : List AV} {vs : List Value} (h : VRs E S Z j l vs) : VR E S Z j (oneA l) (oneL vs) := by
  cases h with
  | nil => exact .tup .nil
  | cons h hl => cases hl with
    | nil => exact h
    | cons h2 hl => exact .tup (.cons h (.cons h2 hl))
/-- What a body has to end with. -/
def Ends' (tb : Tab) (st : List Nat) (rs : List ResultVar) (R : AV → VS → Prop) : VPost := fun e F L => notExit e = true ∧ ∃ l ps a0 L0, vres tb F L rs = some l ∧ Wk st ps [(0, oneA l)] L [(0, a0)] L0 ∧ R a0 L0
theorem VC.of {E : Env} {tb : Tab} {st : List Nat} {f : FuncId} {fn : Func} {c : Code} {args : List AV} {L : VS} {R : AV → VS → Prop} (hT : TabOK E tb = true) (hh : Option.rec true (fun h => !Nat.beq f h) E.hook = true) (hf : E.fns.get f = some fn) (hc : fn.body = some c) (ha : Nat.ble args.length fn.ntmps = true)
    (h : VSt.H E fn.ntmps st none (Ends' tb st fn.results.toList R) (.code c [] (argK args 0) L)) : VC E st f args L R := by
  intro S Z j vs hS hv hl
  have hhk : hookL E f vs = false := by
    unfold hookL
    cases hk : E.hook with
    | none => rfl
    | some k =>
      rw [hk] at hh
      show (Nat.beq f k && vs.isEmpty) = false
      have : Nat.beq f k = false := by simpa using hh
      rw [this]; rfl
  obtain ⟨n, r, h1, F', L', Z', j', h2, h3, l, ps, a0, L0, h4, h5, h6⟩ := h ⟨fn.ntmps, setAll vs 0 .nil⟩ S Z j rfl hS (argK_frr _ _ _ _ _ hv) hl
  obtain ⟨us, h7, h8⟩ := vres_ok hT h2.sr h2.fr h4
  refine ⟨n + 1, oneL us, r.S, fun m hm => ?_, a0, L0, Z', jsel ps j', h5.sr h2.sr, ?_, h2.ex.trans jsel_ex, h2.low, h2.stay.trans h5.stay, h6⟩
  · obtain ⟨k, rfl, hk⟩ := le_succ_ex hm
    show bf (hookL E f vs) _ (ob (E.fns.get f) _) = _
    rw [hhk]
    show ob (E.fns.get f) _ = _
    rw [hf]
    show ob fn.body _ = _
    rw [hc]
    show gd (Nat.ble vs.length fn.ntmps) (ob (evCode E (run E k).call (run E k).code c none _ S) (leaveL E fn)) = _
    rw [← hv.length, ha]
    show ob ((run E (k + 1)).code c none _ S) (leaveL E fn) = _
    rw [h1 _ (by omega)]
    show gd (!isExit r.ex) (ob (resultsL E r.T r.S fn.results.toList) _) = _
    have : (!isExit r.ex) = true := by
      cases hx : r.ex with
      | exit id => rw [hx] at h3; cases h3
      | normal => rfl
      | ret => rfl
    rw [this, h7]
    rfl
  · obtain ⟨a, k1, k2, k3⟩ := h5.fr (0, a0) (by simp)
    have : a = oneA l := by simp [ak] at k1; exact k1.symm
    subst this
    exact k3 _ _ _ _ _ ((oneA_ok h8).ren (ZLe.refl _ _) (jsel_ren h5.ok) k2)
/-- What the body of a function has to end with that only returns a value. -/
def EndsP (tb : Tab) (rs : List ResultVar) (r : AV) : VPost := fun e F L => notExit e = true ∧ ∃ l, vres tb F L rs = some l ∧ (oneA l).only (fun _ => false) = true ∧ AImp (oneA l) r
theorem VP.of {E : Env} {tb : Tab} {f : FuncId} {fn : Func} {c : Code} {args : List AV} {r : AV} (hT : TabOK E tb = true) (hh : Option.rec true (fun h => !Nat.beq f h) E.hook = true) (hf : E.fns.get f = some fn) (hc : fn.body = some c) (ha : Nat.ble args.length fn.ntmps = true) (hr : r.only (fun _ => false) = true)
    (h : VSt.H E fn.ntmps [] none (EndsP tb fn.results.toList r) (.code c [] (argK args 0) [])) : VP E f args r := by
  refine ⟨hr, VC.of hT hh hf hc ha (VW.mono h ?_)⟩
  rintro e F L ⟨h1, l, h2, h3, h4⟩
  refine ⟨h1, l, [], r, [], h2, ⟨rfl, rfl, wf_imp (a := oneA l) rfl h3 ?_ wf_nil, [], rfl, trivial⟩, rfl, rfl⟩
  rw [ren_only _ h3]; exact h4
theorem EndsP.mk {tb : Tab} {rs : List ResultVar} {r : AV} {e : LExit} {F : VK} {L : VS} {l : List AV} (h1 : notExit e = true) (h2 : vres tb F L rs = some l) (h3 : (oneA l).only (fun _ => false) = true) (h4 : oneA l = r) : EndsP tb rs r e F L := ⟨h1, l, h2, h3, h4 ▸ AImp.refl _⟩
end
end Go.Proofs.YtncpeobcgmkkbaaGreat
/- Walks over values: a range over a number of elements; helps. -/
namespace Go.Proofs.YtncpeobcgmkkbaaGreat
noncomputable section
theorem ak_cons {t k : Nat} {a : AV} {F : VK} : ak ((t, a) :: F) k = if k = t then some a else ak F k := by
  simp only [ak, Tr.beq_def]
  by_cases e : t = k
  · subst e; simp
  · simp [e, show ¬ k = t from fun h => e h.symm]
theorem av_tmp {F : VK} {t : Nat} {a : AV} (h : ak F t = some a) (hu : unl a = a) : av F (.tmp t) = some a := by
  show (match ak F t with | some a => some (unl a) | none => none) = _
  rw [h]; exact congrArg some hu
abbrev iv (n : Int) : AV := .p (.int .i64 n)
abbrev nv (n : Nat) : AV := .p (.int .i64 (Int.ofNat n))
section
variable {E : Env} {N : Nat} {st : List Nat} {rd : Option Nat} {Q : VPost} {tb : Tab}
theorem VSt.range (hT : TabOK E tb = true) {ti tn tc ts idb id2 r1 r2 : Nat} {t1 t2 t3 t4 ty1 ty2 ty3 : TypeId} {p1 p2 p3 : String} {a1 a2 a3 : Array Edge} {body : Code} {K : List KI} {F : VK} {L : VS} (n : Nat) (hn : n < 9223372036854775808) (I : Nat → VK → VS → Prop)
    (hN : (Nat.blt tc N && (Nat.blt ts N && Nat.blt ti N)) = true) (hne : (!Nat.beq tc ti && (!Nat.beq tc tn && (!Nat.beq ts ti && (!Nat.beq ts tn && !Nat.beq ti tn)))) = true)
    (h0 : ∃ l0 L0, Vw E st F L ((ti, nv 0) :: (tn, nv n) :: l0) L0 ∧ I 0 l0 L0)
    (hb : ∀ k l L, k < n → I k l L → VSt.H E N st rd Q (.code body (.block id2 :: .inv (fun F' L' => ∃ l'' L'', Vw E st F' L' ((ti, nv k) :: (tn, nv n) :: l'') L'' ∧ I (k + 1) l'' L'' ∧ (l''.all fun p => !Nat.beq ti p.1 && !Nat.beq ts p.1) = true) :: .block idb :: K) ((tc, .p (.bool true)) :: (ti, nv k) :: (tn, nv n) :: l) L))
    (he : ∀ l L, I n l L → VSt.H E N st rd Q (.ex .normal K ((tc, .p (.bool false)) :: (ti, nv n) :: (tn, nv n) :: l) L)) :
    VSt.H E N st rd Q (.code (.loop (.seq (.region r1 #[⟨some tc, .binOp .lss t1 (.tmp ti) (.tmp tn) t2, ty1, p1, a1, none⟩] false)
      (.seq (.cond (.tmp tc) .skip (.exit idb)) (.seq (.block id2 body) (.region r2 #[⟨some ts, .binOp .add t3 (.tmp ti) (.const (.int .i64 1)) t4, ty2, p2, a2, none⟩, ⟨some ti, .move (.tmp ts), ty3, p3, a3, none⟩] false))))) (.block idb :: K) F L) := by
  simp only [Bool.and_eq_true, Bool.not_eq_true'] at hN hne
  obtain ⟨n1, n2, n3⟩ := hN
  obtain ⟨m1, m2, m3, m4, m5⟩ := hne
  have ne : ∀ {a b : Nat}, Nat.beq a b = false → ¬ b = a := fun h e => by subst e; rw [Nat.beq_refl] at h; cases h
  obtain ⟨l0, L0, hw, hI0⟩ := h0
  refine VSt.loop (α := Nat × VK) (fun x F L => x.1 ≤ n ∧ I x.1 x.2 L ∧ F = (ti, nv x.1) :: (tn, nv n) :: x.2) (fun x => n - x.1) (0, l0) hw ⟨Nat.zero_le _, hI0, rfl⟩ ?_
  rintro ⟨k, lx⟩ F L ⟨hk, hI, rfl⟩
  simp only at hk hI
  have hcmp : decide (Int.ofNat k < Int.ofNat n) = decide (k < n) := by
    rw [decide_eq_decide]; simp only [Int.ofNat_eq_natCast]; omega
  have g1 : av ((ti, nv k) :: (tn, nv n) :: lx) (.tmp ti) = some (nv k) := av_tmp (by rw [ak_cons, if_pos rfl]) rfl
  have g2 : av ((ti, nv k) :: (tn, nv n) :: lx) (.tmp tn) = some (nv n) := av_tmp (by rw [ak_cons, if_neg (ne m5), ak_cons, if_pos rfl]) rfl
  refine VW.seq (VW.region (VO.keep (obs := []) (a := .p (.bool (decide (k < n)))) hT rfl n1 ?_ (fun P hP => by cases hP) (VO.nil ?_)))
  · show o1 (av _ (.tmp ti)) (fun a => o1 (av _ (.tmp tn)) fun b => vbinop tb .lss t1 a b) = _
    rw [g1, g2]
    show some ([], AV.p (.bool (decide (Int.ofNat k < Int.ofNat n)))) = _
    rw [hcmp]
  · refine VW.seq (VW.cond (t := decide (k < n)) (av_tmp (ak_cons.trans (if_pos rfl)) rfl) (fun hc => VW.skip ?_) (fun hc => VW.exit ?_))
    · have hkn : k < n := of_decide_eq_true hc
      show VW E N st rd (.seq (.block id2 body) _) ((tc, .p (.bool (decide (k < n)))) :: _) L _
      rw [hc]
      refine VW.seq (VW.block (VW.mono (hb k lx L hkn hI) ?_))
      intro e F' L' hk2
      have fin : (∃ l'' L'', Vw E st F' L' ((ti, nv k) :: (tn, nv n) :: l'') L'' ∧ I (k + 1) l'' L'' ∧ (l''.all fun p => !Nat.beq ti p.1 && !Nat.beq ts p.1) = true) → VW E N st rd (.region r2 #[⟨some ts, .binOp .add t3 (.tmp ti) (.const (.int .i64 1)) t4, ty2, p2, a2, none⟩, ⟨some ti, .move (.tmp ts), ty3, p3, a3, none⟩] false) F' L' (KX E N st rd Q (.inv (fun F' L' => ∃ (y : Nat × VK) (F0 : VK) (L0 : VS), Vw E st F' L' F0 L0 ∧ (y.1 ≤ n ∧ I y.1 y.2 L0 ∧ F0 = (ti, nv y.1) :: (tn, nv n) :: y.2) ∧ n - y.1 < n - k) :: .block idb :: K)) := by
        rintro ⟨l'', L'', hw', hI', hd⟩
        refine VW.view hw' ?_
        have g3 : av ((ti, nv k) :: (tn, nv n) :: l'') (.tmp ti) = some (nv k) := av_tmp (by rw [ak_cons, if_pos rfl]) rfl
        refine VW.region (VO.keep (obs := [inR (Int.ofNat k + 1)]) (a := nv (k + 1)) hT rfl n2 ?_ (fun P hP => ?_) ?_)
        · show o1 (av _ (.tmp ti)) (fun a => o1 (av _ (.const (.int .i64 1))) fun b => vbinop tb .add t3 a b) = _
          rw [g3]; rfl
        · rw [List.mem_singleton.1 hP]
          unfold inR; simp only [Int.ofNat_eq_natCast]; omega
        · refine VO.keep (obs := []) (a := nv (k + 1)) hT rfl n3 ?_ (fun P hP => by cases hP) (VO.nil ?_)
          · show o1 (ak ((ts, nv (k + 1)) :: _) ts) _ = _
            rw [ak_cons, if_pos rfl]; rfl
          · refine ⟨(k + 1, l''), _, L'', Vw.sub' (fun t a ha => ?_), ⟨hkn, hI', rfl⟩, by simp only; omega⟩
            show ak ((ti, nv (k + 1)) :: (ts, nv (k + 1)) :: (ti, nv k) :: (tn, nv n) :: l'') t = some a
            rw [ak_cons] at ha ⊢
            split at ha
            · rename_i e; rw [if_pos e]; exact ha
            · rename_i e
              rw [if_neg e]
              rw [ak_cons] at ha
              split at ha
              · rename_i e2; subst e2
                rw [ak_cons, if_neg (ne m4), ak_cons, if_neg e, ak_cons, if_pos rfl]; exact ha
              · rename_i e2
                have hp0 := List.all_eq_true.1 hd _ (ak_mem ha)
                simp only [Bool.and_eq_true, Bool.not_eq_true'] at hp0
                rw [ak_cons, if_neg (ne hp0.2), ak_cons, if_neg e, ak_cons, if_neg e2]; exact ha
      cases e with
      | normal => exact fin hk2
      | ret => exact hk2
      | exit i =>
        show if i = id2 then _ else _
        by_cases ei : i = id2
        · rw [if_pos ei]
          change (if i = id2 then _ else _) at hk2
          rw [if_pos ei] at hk2
          exact fin hk2
        · rw [if_neg ei]
          change (if i = id2 then _ else _) at hk2
          rw [if_neg ei] at hk2
          exact hk2
    · show if idb = idb then _ else _
      rw [if_pos rfl]
      have : k = n := by
        have := of_decide_eq_false hc
        omega
      subst this
      show KX E N st rd Q K .normal ((tc, .p (.bool (decide (k < k)))) :: _) L
      rw [hc]
      exact he lx L hI
end
end
end Go.Proofs.YtncpeobcgmkkbaaGreat
/- The lift: what a world's arguments read as, laid out for a walk over values. -/
namespace Go.Proofs.YtncpeobcgmkkbaaGreat

def withRom (E : Env) (r : Tr (List Value × TypeId)) : Env := { E with rom := r }
abbrev Seg := JB × (List Value × TypeId)
def sOf : List Seg → Nat → Option Seg
  | [], _ => none
  | s :: l, b => if b = l.length then some s else sOf l b
def jOf (L : List Seg) : Inj := fun b => (sOf L b).map (·.1)
noncomputable def romOf : List Seg → Tr (List Value × TypeId)
  | [] => .nil
  | s :: l => (romOf l).set l.length s.2
theorem romOf_get : ∀ (L : List Seg) (b : Nat), (romOf L).get b = (sOf L b).map (·.2)
  | [], b => Tr.get_nil b
  | s :: l, b => by
    rw [romOf, Tr.get_set, sOf]
    split
    · rfl
    · exact romOf_get l b
theorem sOf_lt : ∀ {L : List Seg} {b : Nat} {s : Seg}, sOf L b = some s → b < L.length
  | [], b, s, h => by cases h
  | s0 :: l, b, s, h => by
    rw [sOf] at h
    split at h
    · simp; omega
    · have := sOf_lt h; simp; omega
theorem sOf_some : ∀ {L : List Seg} {b : Nat}, b < L.length → ∃ s, sOf L b = some s
  | [], b, h => by simp at h
  | s0 :: l, b, h => by
    rw [sOf]
    split
    · exact ⟨_, rfl⟩
    · simp at h; exact sOf_some (by omega)
theorem sOf_app (M : List Seg) {L : List Seg} {b : Nat} {s : Seg} (h : sOf L b = some s) : sOf (M ++ L) b = some s := by
  induction M with
  | nil => exact h
  | cons m M ih =>
    rw [List.cons_append, sOf, if_neg]
    · exact ih
    · have := sOf_lt h; simp; omega
theorem jOf_le (M L : List Seg) : Le (jOf L) (jOf (M ++ L)) := fun b x h => by
  unfold jOf at h ⊢
  cases hs : sOf L b with
  | none => rw [hs] at h; cases h
  | some s => rw [hs] at h; rw [sOf_app M hs]; exact h
section
variable (E : Env) (W : World)
def SegOk (j : Inj) (s : Seg) : Prop := s.1.blk < W.heap.size ∧ (s.2.1 ≠ [] → ∃ c' e' fr, W.heap[s.1.blk]? = some (.cells c' e' fr) ∧ c'.size = s.1.csize ∧ s.1.delta + s.2.1.length ≤ s.1.csize ∧ (∀ t, E.ti.get s.2.2 = some t → t.size = s.1.esize) ∧
  ∀ (i : Nat) (v : Value), s.2.1[i]? = some v → ∃ v' : Value, c'[s.1.delta + i]? = some v' ∧ VRel j v v')
def Valid (L : List Seg) : Prop := ∀ b s, sOf L b = some s → SegOk E W (jOf L) s
end
section
variable {E : Env} {W : World}
theorem SegOk.mono {j j' : Inj} (hj : Le j j') {s : Seg} (h : SegOk E W j s) : SegOk E W j' s := by
  refine ⟨h.1, fun hne => ?_⟩
  obtain ⟨c', e', fr, h1, h2, h3, h4, h5⟩ := h.2 hne
  exact ⟨c', e', fr, h1, h2, h3, h4, fun i v hi => let ⟨v', a, b⟩ := h5 i v hi; ⟨v', a, b.mono hj⟩⟩
theorem Valid.nil : Valid E W [] := fun b s h => by cases h
theorem Valid.cons {L : List Seg} (h : Valid E W L) {s : Seg} (hs : SegOk E W (jOf L) s) : Valid E W (s :: L) := by
  intro b s' hb
  rw [sOf] at hb
  split at hb
  · cases hb; exact hs.mono (jOf_le [s] L)
  · exact (h b s' hb).mono (jOf_le [s] L)
def st0 (L : List Seg) : St := ⟨.nil, L.length, L.length⟩
theorem simOf {P : Program} {L : List Seg} (h : Valid E W L) : Sim ⟨P, withRom E (romOf L)⟩ (jOf L) (st0 L) W := by
  have hlive : ∀ b, ¬ live (st0 L) b := fun b ⟨o, ho, _⟩ => by
    have : (Tr.nil : Tr LObj).get b = some o := ho
    rw [Tr.get_nil] at this; cases this
  refine ⟨fun b x hb => ?_, fun b x o _ ho => ?_, fun b c x y _ _ lb => absurd lb (hlive b), fun b c hb => ?_⟩
  · unfold jOf at hb
    cases hs : sOf L b with
    | none => rw [hs] at hb; cases hb
    | some s => rw [hs] at hb; cases hb; exact ⟨sOf_lt hs, (h b s hs).1⟩
  · have : (Tr.nil : Tr LObj).get b = some o := ho
    rw [Tr.get_nil] at this; cases this
  · have hb : (romOf L).get b = some c := hb
    rw [romOf_get] at hb
    cases hs : sOf L b with
    | none => rw [hs] at hb; cases hb
    | some s =>
      rw [hs] at hb; cases hb
      exact ⟨s.1, by unfold jOf; rw [hs]; rfl, (h b s hs).2, fun d y _ hd => absurd hd (hlive d)⟩
mutual
theorem PR.monoE {E' : Env} {S S' : St} {Z Z' : Nat → Prop} (hz : ∀ b, Z b → Z' b ∧ (∀ c, rdc E S b = some c → rdc E' S' b = some c) ∧ (E.rom.get b = none → E'.rom.get b = none)) {p : PV} {v : Value} : PR E S Z p v → PR E' S' Z' p v
  | .int k n => .int k n
  | .bool b => .bool b
  | .str s => .str s
  | .nil ty f => .nil ty f
  | .lst g h1 h2 h3 h0 h4 h5 h6 => .lst g (hz _ h1).1 ((hz _ h1).2.1 _ h2) h3 h0 (h4.imp id fun h => ⟨h.1, (hz _ h1).2.2 h.2⟩) h5 (fun k hk => (h6 k hk).monoE hz)
  | .fp h1 h2 h3 h4 => .fp (hz _ h1).1 ((hz _ h1).2.1 _ h2) h3 (h4.monoE hz)
  | .emp h1 h2 h3 => .emp (hz _ h1).1 ((hz _ h1).2.1 _ h2) h3
  | .nilp => .nilp
  | .nilf => .nilf
  | .nilm => .nilm
theorem PRs.monoE {E' : Env} {S S' : St} {Z Z' : Nat → Prop} (hz : ∀ b, Z b → Z' b ∧ (∀ c, rdc E S b = some c → rdc E' S' b = some c) ∧ (E.rom.get b = none → E'.rom.get b = none)) {p : List PV} {v : List Value} : PRs E S Z p v → PRs E' S' Z' p v
  | .nil => .nil
  | .cons h hl => .cons (h.monoE hz) (hl.monoE hz)
end
abbrev PL (E : Env) (L : List Seg) (qs : List PV) (vs : List Value) : Prop := PRs (withRom E (romOf L)) (st0 L) (fun b => b < L.length) qs vs
theorem rdc_seg {L : List Seg} {b : Nat} {s : Seg} (h : sOf L b = some s) (S : St) : rdc (withRom E (romOf L)) S b = some s.2 := by
  unfold rdc
  show Option.rec (motive := fun _ => Option (List Value × TypeId)) _ _ ((romOf L).get b) = _
  rw [romOf_get, h]; rfl
theorem PL.mono {L : List Seg} (M : List Seg) {qs : List PV} {vs : List Value} (h : PL E L qs vs) : PL E (M ++ L) qs vs := by
  refine PRs.monoE (fun b hb => ?_) h
  obtain ⟨s, hs⟩ := sOf_some hb
  refine ⟨by show b < (M ++ L).length; simp; omega, fun c hc => ?_, fun hn => ?_⟩
  · rw [rdc_seg hs] at hc
    rw [rdc_seg (sOf_app M hs)]; exact hc
  · have hn : (romOf L).get b = none := hn
    rw [romOf_get, hs] at hn; cases hn
/-- What values of a type look like. -/
def Sh (E : Env) : Nat → TypeId → List PV → Prop
  | 0, _, _ => False
  | n + 1, t, qs => match E.ti.get t with
    | none => False
    | some i => match i.desc with
      | .bool => ∃ b, qs = [.bool b]
      | .int k => ∃ x, qs = [.int k x] ∧ k.min ≤ x ∧ x ≤ k.max
      | .string => ∃ s : ByteArray, qs = [.str s] ∧ s.size ≤ maxLen
      | .slice e => ∃ nb m f, qs = [.lst e nb m f] ∧ (nb = true → m = 0) ∧ m ≤ maxLen ∧ ∀ k, k < m → Sh E n e (f k)
      | .struct fs => qs.length = i.size ∧ ∀ f ∈ fs.toList, ∃ g, E.ti.get f.type = some g ∧ Sh E n f.type ((qs.drop f.offset).take g.size)
      | .array m e => qs.length = i.size ∧ ∃ g, E.ti.get e = some g ∧ ∀ k, k < m → Sh E n e ((qs.drop (k * g.size)).take g.size)
      | _ => False
noncomputable def contig (E : Env) (fs : List Field) : Nat → Option Nat :=
  List.rec (motive := fun _ => Nat → Option Nat) (fun o => some o) (fun f _ ih o => match E.ti.get f.type with
    | none => none
    | some g => bif Nat.beq f.offset o then ih (o + g.size) else none) fs
noncomputable def sup (E : Env) : Nat → TypeId → Bool
  | 0, _ => false
  | n + 1, t => match E.ti.get t with
    | none => false
    | some i => match i.desc with
      | .bool => Nat.beq i.size 1
      | .int _ => Nat.beq i.size 1
      | .string => Nat.beq i.size 1
      | .slice e => Nat.beq i.size 1 && ((match E.ti.get e with | some g => Nat.blt 0 g.size | none => false) && sup E n e)
      | .struct fs => (match contig E fs.toList 0 with | some m => Nat.beq m i.size | none => false) && fs.toList.all fun f => sup E n f.type
      | .array m e => (match E.ti.get e with | some g => Nat.beq (m * g.size) i.size | none => false) && sup E n e
      | _ => false
end
end Go.Proofs.YtncpeobcgmkkbaaGreat
/- The lift: laying out what has been read. -/
namespace Go.Proofs.YtncpeobcgmkkbaaGreat
section
variable {H : Type} {enc : TypeId × Value → H} {P : Program} {E : Env} {W : World}
/-- What is asked of the tables. -/
structure TiP (P : Program) (E : Env) : Prop where
  ti : ∀ t x, E.ti.get t = some x → TiOK P t x
theorem TiP.cells (h : TiP P E) {t : TypeId} {i : LTy} (hi : E.ti.get t = some i) : P.cellsOf t = i.size := by
  obtain ⟨q, h1, h2, _⟩ := (h.ti t i hi).info
  unfold Program.cellsOf
  rw [h1]; exact h2
/-- What a reading lays out. -/
def Lays (E : Env) (W : World) (L : List Seg) (cs : List Value) (Q : List PV → Prop) : Prop := ∃ M cs' qs, Valid E W (M ++ L) ∧ VsRel (jOf (M ++ L)) cs' cs ∧ PL E (M ++ L) qs cs' ∧ Q qs
theorem VsRel.app {j : Inj} : ∀ {a a' b b' : List Value}, VsRel j a a' → VsRel j b b' → VsRel j (a ++ b) (a' ++ b')
  | _, _, _, _, .nil, h => h
  | _, _, _, _, .cons h hl, k => .cons h (hl.app k)
/-- Pieces that stand one behind the other. -/
theorem lays_row {Sz : TypeId → Nat} {O : TypeId → Prop} {Q : TypeId → List PV → Prop} (one : ∀ (t : TypeId) (c : List Value) (L : List Seg), Valid E W L → c.length = Sz t → (∃ n d, DataW.trod enc P W 0 (fun _ => true) true n t c = some d) → O t → Lays E W L c (fun q => q.length = Sz t ∧ Q t q)) :
    ∀ (l : List (TypeId × List Value)) (L : List Seg), Valid E W L → (∀ p ∈ l, O p.1 ∧ p.2.length = Sz p.1 ∧ ∃ n d, DataW.trod enc P W 0 (fun _ => true) true n p.1 p.2 = some d) →
    ∃ M cs' qs, Valid E W (M ++ L) ∧ VsRel (jOf (M ++ L)) cs' (l.flatMap (·.2)) ∧ PL E (M ++ L) qs cs' ∧ ∃ parts : List (List PV), qs = parts.flatten ∧ parts.length = l.length ∧ ∀ (i : Nat) (p : TypeId × List Value), l[i]? = some p → ∃ q : List PV, parts[i]? = some q ∧ q.length = Sz p.1 ∧ Q p.1 q
  | [], L, hL, _ => ⟨[], [], [], hL, .nil, .nil, [], rfl, rfl, fun i p h => by simp at h⟩
  | p :: l, L, hL, hp => by
    obtain ⟨h0, h1, h2⟩ := hp p (by simp)
    obtain ⟨M1, c1, q1, k1, k2, k3, k4⟩ := one p.1 p.2 L hL h1 h2 h0
    obtain ⟨M2, c2, q2, m1, m2, m3, parts, m4, m5, m6⟩ := lays_row one l (M1 ++ L) k1 (fun p hp' => hp p (by simp [hp']))
    refine ⟨M2 ++ M1, c1 ++ c2, q1 ++ q2, by rw [List.append_assoc]; exact m1, ?_, ?_, q1 :: parts, by simp [m4], by simp [m5], fun i p' hi => ?_⟩
    · rw [List.flatMap_cons, List.append_assoc]
      exact (k2.mono (jOf_le M2 (M1 ++ L))).app m2
    · rw [List.append_assoc]; exact (k3.mono M2).append m3
    · cases i with
      | zero => simp at hi; subst hi; exact ⟨q1, by simp, k4⟩
      | succ i => simp at hi; obtain ⟨q, h3, h4⟩ := m6 i p' hi; exact ⟨q, by simpa using h3, h4⟩
/-- A list cut into pieces of given sizes. -/
def chop {α : Type} : List Nat → List α → List (List α)
  | [], _ => []
  | s :: l, cs => cs.take s :: chop l (cs.drop s)
theorem chop_length {α : Type} : ∀ (szs : List Nat) (cs : List α), (chop szs cs).length = szs.length
  | [], _ => rfl
  | s :: l, cs => by simp [chop, chop_length l]
theorem chop_flatten {α : Type} : ∀ (szs : List Nat) (cs : List α), cs.length = szs.sum → (chop szs cs).flatten = cs
  | [], cs, h => by simp at h; simp [chop, h]
  | s :: l, cs, h => by
    simp only [List.sum_cons] at h
    simp only [chop, List.flatten_cons]
    rw [chop_flatten l (cs.drop s) (by simp; omega), List.take_append_drop]
theorem chop_get {α : Type} : ∀ (szs : List Nat) (cs : List α) (i s : Nat), szs[i]? = some s → (chop szs cs)[i]? = some ((cs.drop (szs.take i).sum).take s)
  | [], cs, i, s, h => by simp at h
  | s0 :: l, cs, 0, s, h => by simp at h; subst h; simp [chop]
  | s0 :: l, cs, i + 1, s, h => by
    simp at h
    simp only [chop, List.getElem?_cons_succ, List.take_succ_cons, List.sum_cons]
    rw [chop_get l (cs.drop s0) i s h, List.drop_drop]
theorem chop_parts {α : Type} : ∀ (parts : List (List α)), chop (parts.map List.length) parts.flatten = parts
  | [] => rfl
  | p :: l => by simp [chop, chop_parts l]
theorem contig_nil (o : Nat) : contig E [] o = some o := rfl
theorem contig_cons (f : Field) (fs : List Field) (o : Nat) : contig E (f :: fs) o = match E.ti.get f.type with
    | none => none
    | some g => bif Nat.beq f.offset o then contig E fs (o + g.size) else none := rfl
theorem contig_spec (hP : TiP P E) : ∀ {fs : List Field} {o m : Nat}, contig E fs o = some m → m = o + (fs.map fun f => P.cellsOf f.type).sum ∧ ∀ i f, fs[i]? = some f → ∃ g, E.ti.get f.type = some g ∧ f.offset = o + ((fs.map fun f => P.cellsOf f.type).take i).sum
  | [], o, m, h => by rw [contig_nil] at h; cases h; exact ⟨by simp, fun i f h => by simp at h⟩
  | f0 :: fs, o, m, h => by
    rw [contig_cons] at h
    split at h
    · cases h
    · rename_i g hg
      cases hb : Nat.beq f0.offset o with
      | false => rw [hb] at h; cases h
      | true =>
        rw [hb] at h
        simp only [cond_true] at h
        obtain ⟨h1, h2⟩ := contig_spec hP h
        have hc := hP.cells hg
        refine ⟨by simp only [List.map_cons, List.sum_cons]; omega, fun i f hf => ?_⟩
        cases i with
        | zero => simp at hf; subst hf; exact ⟨g, hg, by simp [beq_eq hb]⟩
        | succ i =>
          simp at hf
          obtain ⟨g', h3, h4⟩ := h2 i f hf
          refine ⟨g', h3, ?_⟩
          simp only [List.map_cons, List.take_succ_cons, List.sum_cons]; omega
end
end Go.Proofs.YtncpeobcgmkkbaaGreat
/- The lift: every reading of a plain type is laid out. -/
namespace Go.Proofs.YtncpeobcgmkkbaaGreat
section
variable {H : Type} {enc : TypeId × Value → H} {P : Program} {E : Env} {W : World}
theorem sum_const (n s : Nat) : ((List.range n).map fun _ => s).sum = n * s := by
  induction n with
  | zero => simp
  | succ n ih => rw [List.range_succ, List.map_append, List.sum_append, ih]; simp [Nat.succ_mul]
theorem getD_map_const {α : Type} (l : List α) (s : Nat) (k : Nat) (h : k ≤ l.length) : ((l.map fun _ => s).take k).sum = k * s := by
  induction k generalizing l with
  | zero => simp
  | succ k ih =>
    cases l with
    | nil => simp at h
    | cons a l => simp only [List.map_cons, List.take_succ_cons, List.sum_cons, ih l (by simpa using h), Nat.succ_mul]; omega
/-- A row of readings, piece by piece. -/
theorem lays_chop (hP : TiP P E) {m : Nat} (one : ∀ (t : TypeId) (i : LTy) (c : List Value) (L : List Seg), E.ti.get t = some i → sup E m t = true → Valid E W L → (∃ n d, DataW.trod enc P W 0 (fun _ => true) true n t c = some d) → Lays E W L c (fun q => q.length = i.size ∧ Sh E m t q))
    (ts : List TypeId) (hts : ∀ t ∈ ts, ∃ i, E.ti.get t = some i ∧ sup E m t = true) (cs : List Value) (hl : cs.length = (ts.map P.cellsOf).sum) (L : List Seg) (hL : Valid E W L)
    (hc : ∀ k t, ts[k]? = some t → ∃ n d, DataW.trod enc P W 0 (fun _ => true) true n t ((cs.drop ((ts.map P.cellsOf).take k).sum).take (P.cellsOf t)) = some d) :
    Lays E W L cs (fun q => q.length = (ts.map P.cellsOf).sum ∧ ∀ k t, ts[k]? = some t → Sh E m t ((q.drop ((ts.map P.cellsOf).take k).sum).take (P.cellsOf t))) := by
  have hget : ∀ k (p : TypeId × List Value), (ts.zip (chop (ts.map P.cellsOf) cs))[k]? = some p → ts[k]? = some p.1 ∧ p.2 = (cs.drop ((ts.map P.cellsOf).take k).sum).take (P.cellsOf p.1) := by
    intro k p hp
    rw [List.getElem?_zip_eq_some] at hp
    obtain ⟨h1, h2⟩ := hp
    refine ⟨h1, ?_⟩
    rw [chop_get _ _ k (P.cellsOf p.1) (by rw [List.getElem?_map, h1]; rfl)] at h2
    exact (Option.some.inj h2).symm
  have hlen : ∀ k t, ts[k]? = some t → ((cs.drop ((ts.map P.cellsOf).take k).sum).take (P.cellsOf t)).length = P.cellsOf t := by
    intro k t hk
    have h1 : ((ts.map P.cellsOf).take (k + 1)).sum = ((ts.map P.cellsOf).take k).sum + P.cellsOf t := by
      rw [List.take_add_one, List.sum_append, List.getElem?_map, hk]; simp
    have h2 : ((ts.map P.cellsOf).take (k + 1)).sum ≤ (ts.map P.cellsOf).sum := by
      conv => rhs; rw [← List.take_append_drop (k + 1) (ts.map P.cellsOf), List.sum_append]
      omega
    simp; omega
  obtain ⟨M, cs', qs, k1, k2, k3, parts, k4, k5, k6⟩ := lays_row (enc := enc) (Sz := P.cellsOf) (O := fun t => ∃ i, E.ti.get t = some i ∧ sup E m t = true) (Q := fun t q => Sh E m t q) (P := P) (E := E) (W := W) (fun t c L hL hcl ht ⟨i, hi, hs⟩ => by
      obtain ⟨M, cs', qs, q1, q2, q3, q4, q5⟩ := one t i c L hi hs hL ht
      exact ⟨M, cs', qs, q1, q2, q3, q4.trans (hP.cells hi).symm, q5⟩) (ts.zip (chop (ts.map P.cellsOf) cs)) L hL (fun p hp => by
      obtain ⟨k, hk⟩ := List.mem_iff_getElem?.1 hp
      obtain ⟨h1, h2⟩ := hget k p hk
      rw [h2]
      exact ⟨hts _ (List.mem_of_getElem? h1), hlen k p.1 h1, hc k p.1 h1⟩)
  have hzl : (ts.zip (chop (ts.map P.cellsOf) cs)).length = ts.length := by simp [chop_length]
  have hfl : (ts.zip (chop (ts.map P.cellsOf) cs)).flatMap (·.2) = cs := by
    rw [List.flatMap_def, List.map_snd_zip (by simp [chop_length])]
    exact chop_flatten _ _ hl
  rw [hfl] at k2
  have hpl : parts.map List.length = ts.map P.cellsOf := by
    apply List.ext_getElem?
    intro i
    rw [List.getElem?_map, List.getElem?_map]
    cases hi : ts[i]? with
    | none =>
      have : parts[i]? = none := by
        rw [List.getElem?_eq_none_iff] at hi ⊢; omega
      rw [this]; rfl
    | some t =>
      have hil := (List.getElem?_eq_some_iff.1 hi).1
      have hz : (ts.zip (chop (ts.map P.cellsOf) cs))[i]? = some ((ts.zip (chop (ts.map P.cellsOf) cs))[i]'(by omega)) := List.getElem?_eq_getElem _
      obtain ⟨q, h1, h2, _⟩ := k6 i _ hz
      obtain ⟨h3, _⟩ := hget i _ hz
      rw [hi] at h3
      rw [h1, Option.some.inj h3]
      show some q.length = _
      rw [h2]; rfl
  refine ⟨M, cs', qs, k1, k2, k3, ?_, fun k t hk => ?_⟩
  · rw [k4, List.length_flatten, hpl]
  · have hil := (List.getElem?_eq_some_iff.1 hk).1
    have hz : (ts.zip (chop (ts.map P.cellsOf) cs))[k]? = some ((ts.zip (chop (ts.map P.cellsOf) cs))[k]'(by omega)) := List.getElem?_eq_getElem _
    obtain ⟨q, h1, h2, h4⟩ := k6 k _ hz
    obtain ⟨h3, _⟩ := hget k _ hz
    rw [hk] at h3
    have e := Option.some.inj h3
    rw [← e] at h4 h2
    have h5 := chop_parts parts
    rw [hpl, ← k4] at h5
    have h6 := chop_get (ts.map P.cellsOf) qs k (P.cellsOf t) (by rw [List.getElem?_map, hk]; rfl)
    rw [h5, h1] at h6
    rw [← Option.some.inj h6]; exact h4
theorem cell_of {W : World} {a : Addr} {v : Value} (h : W.cell? a = some v) : a.spot = none ∧ ∃ c e fr, W.heap[a.block]? = some (.cells c e fr) ∧ c[a.off]? = some v := by
  unfold World.cell? at h
  split at h
  · rename_i c e fr hb
    split at h
    · cases h
    · rename_i hs
      refine ⟨?_, c, e, fr, hb, h⟩
      cases hsp : a.spot with
      | none => rfl
      | some _ => rw [hsp] at hs; simp at hs
  · cases h
theorem mapM_get {α β : Type} {f : α → Option β} : ∀ {l : List α} {r : List β}, l.mapM f = some r → r.length = l.length ∧ ∀ (i : Nat) (a : α), l[i]? = some a → ∃ b : β, f a = some b ∧ r[i]? = some b
  | [], r, h => by simp at h; subst h; exact ⟨rfl, fun i a h => by simp at h⟩
  | a :: l, r, h => by
    simp only [List.mapM_cons, Option.pure_def, Option.bind_eq_bind, Option.bind_eq_some_iff] at h
    obtain ⟨b, hb, r', hr, h1⟩ := h
    cases h1
    obtain ⟨h2, h3⟩ := mapM_get hr
    refine ⟨by simp [h2], fun i x hx => ?_⟩
    cases i with
    | zero => simp at hx; subst hx; exact ⟨b, hb, by simp⟩
    | succ i => simp at hx; simpa using h3 i x hx
theorem cells_of {W : World} {a : Addr} {n : Nat} {l : List Value} (h : W.cells? 0 a n = some l) : l.length = n ∧ ∀ i v, l[i]? = some v → W.cell? (a.add i) = some v := by
  unfold World.cells? at h
  rw [if_pos (Nat.zero_le _)] at h
  obtain ⟨h1, h2⟩ := mapM_get h
  rw [List.length_range] at h1
  refine ⟨h1, fun i v hv => ?_⟩
  have hi : i < n := by rw [← h1]; exact (List.getElem?_eq_some_iff.1 hv).1
  obtain ⟨b, h3, h4⟩ := h2 i i (List.getElem?_range hi)
  rw [hv] at h4; cases h4; exact h3
theorem add_off (a : Addr) (n : Nat) : (a.add n).off = a.off + n ∧ (a.add n).block = a.block := by
  unfold Addr.add
  split
  · rename_i h; subst h; exact ⟨rfl, rfl⟩
  · exact ⟨rfl, rfl⟩
/-- The elements of a slice, laid out one behind the other. -/
theorem lays_elems {m sz : Nat} {e : TypeId} {g : LTy} (hg : E.ti.get e = some g) (hsz : g.size = sz) (one : ∀ (c : List Value) (L : List Seg), Valid E W L → (∃ n d, DataW.trod enc P W 0 (fun _ => true) true n e c = some d) → Lays E W L c (fun q => q.length = g.size ∧ Sh E m e q))
    {len : Nat} {el : Nat → List Value} (hel : ∀ i, i < len → (el i).length = sz ∧ ∃ n d, DataW.trod enc P W 0 (fun _ => true) true n e (el i) = some d) : ∀ k, k ≤ len → ∀ L, Valid E W L →
    ∃ (M : List Seg) (acc : List Value) (f : Nat → List PV), Valid E W (M ++ L) ∧ acc.length = k * sz ∧ VsRel (jOf (M ++ L)) acc ((List.range k).flatMap el) ∧ ∀ i, i < k → ∃ gi : List Value, cut acc (i * sz) sz = some gi ∧ PL E (M ++ L) (f i) gi ∧ Sh E m e (f i) := by
  intro k
  induction k with
  | zero => intro _ L hL; exact ⟨[], [], fun _ => [], hL, by simp, .nil, fun i hi => by omega⟩
  | succ k ih =>
    intro hk L hL
    obtain ⟨M, acc, f, h1, h2, h3, h4⟩ := ih (by omega) L hL
    obtain ⟨h5, h6⟩ := hel k (by omega)
    obtain ⟨M2, c2, q2, k1, k2, k3, k4, k5⟩ := one (el k) (M ++ L) h1 h6
    have hc2 : c2.length = sz := by rw [k2.length, h5]
    refine ⟨M2 ++ M, acc ++ c2, fun i => if i = k then q2 else f i, by rw [List.append_assoc]; exact k1, by rw [List.length_append, h2, hc2, Nat.succ_mul], ?_, fun i hi => ?_⟩
    · rw [List.append_assoc, List.range_succ, List.flatMap_append]
      refine (h3.mono (jOf_le M2 (M ++ L))).app ?_
      simpa using k2
    · by_cases e1 : i = k
      · subst e1
        refine ⟨c2, ?_, by simp only [if_pos]; rw [List.append_assoc]; exact k3, by simp only [if_pos]; exact k5⟩
        have := cut_app_right (a := acc) (b := c2) (x := 0) (n := sz) (r := c2) (by have := cut_all c2; rw [hc2] at this; exact this)
        rw [h2, Nat.add_zero] at this; exact this
      · obtain ⟨gi, m1, m2, m3⟩ := h4 i (by omega)
        refine ⟨gi, cut_app_left m1, by simp only [if_neg e1]; rw [List.append_assoc]; exact m2.mono M2, by simp only [if_neg e1]; exact m3⟩
theorem VsRel.refl_int {j : Inj} {k : IntKind} {n : Int} : VsRel j [.int k n] [.int k n] := .cons (.int _ _) .nil
/-- Whatever is read is laid out. -/
theorem lays (hP : TiP P E) (hW : 0 < W.heap.size) : ∀ (m : Nat) (t : TypeId) (i : LTy) (cs : List Value) (L : List Seg), E.ti.get t = some i → sup E m t = true → Valid E W L → (∃ n d, DataW.trod enc P W 0 (fun _ => true) true n t cs = some d) → Lays E W L cs (fun q => q.length = i.size ∧ Sh E m t q)
  | 0, t, i, cs, L, hi, hs, _, _ => by cases hs
  | m + 1, t, i, cs, L, hi, hs, hL, ⟨n, d, hd⟩ => by
    have hund := (hP.ti t i hi).und
    have hcell := hP.cells hi
    have ih := lays hP hW m
    unfold sup at hs
    rw [hi] at hs
    simp only at hs
    unfold Sh
    rw [hi]
    simp only
    cases hdd : i.desc with
    | bool =>
      rw [hdd] at hs hund
      obtain ⟨b, rfl, _⟩ := DataW.trod_bool hund hd
      exact ⟨[], [.bool b], [.bool b], hL, .cons (.bool _) .nil, .cons (.bool _) .nil, by simp [beq_eq hs], b, rfl⟩
    | int k =>
      rw [hdd] at hs hund
      obtain ⟨x, rfl, _, hwf⟩ := DataW.trod_int hund hd
      simp only [Lit.wf, Bool.and_eq_true, decide_eq_true_eq] at hwf
      exact ⟨[], [.int k x], [.int k x], hL, .cons (.int _ _) .nil, .cons (.int _ _) .nil, by simp [beq_eq hs], x, rfl, hwf.1, hwf.2⟩
    | string =>
      rw [hdd] at hs hund
      obtain ⟨s, rfl, _, hl⟩ := DataW.trod_string hund hd
      exact ⟨[], [.string s], [.str s], hL, .cons (.string _) .nil, .cons (.str _) .nil, by simp [beq_eq hs], s, rfl, hl⟩
    | struct fs =>
      rw [hdd] at hs hund
      simp only [Bool.and_eq_true] at hs
      obtain ⟨h1, h2⟩ := hs
      split at h1
      · rename_i mm hmm
        obtain ⟨h3, h4⟩ := contig_spec hP hmm
        obtain ⟨xs, n', rfl, _, h5, h6, h7⟩ := DataW.trod_struct hund hd
        have hsum : (fs.toList.map fun f => P.cellsOf f.type).sum = i.size := by have := beq_eq h1; omega
        have hmap : (fs.toList.map (·.type)).map P.cellsOf = fs.toList.map fun f => P.cellsOf f.type := by simp
        obtain ⟨M, cs', qs, k1, k2, k3, k4, k5⟩ := lays_chop (enc := enc) (m := m) hP ih (fs.toList.map (·.type)) (fun t ht => by
          obtain ⟨f, hf, rfl⟩ := List.mem_map.1 ht
          obtain ⟨j, hj⟩ := List.mem_iff_getElem?.1 hf
          obtain ⟨g, hg, _⟩ := h4 j f hj
          exact ⟨g, hg, List.all_eq_true.1 h2 f hf⟩) cs (by rw [hmap, hsum, h5, hcell]) L hL (fun k t hk => by
          rw [List.getElem?_map] at hk
          cases hf : fs.toList[k]? with
          | none => rw [hf] at hk; cases hk
          | some f =>
            rw [hf] at hk; cases hk
            obtain ⟨_, _, hoff⟩ := h4 k f hf
            have h8 := h7 k f (by rw [← Array.getElem?_toList]; exact hf)
            rw [hmap]
            rw [Nat.zero_add] at hoff
            rw [← hoff]
            have : k < xs.length := by rw [h6, ← Array.length_toList]; exact (List.getElem?_eq_some_iff.1 hf).1
            exact ⟨n', xs[k], h8.trans (List.getElem?_eq_getElem this)⟩)
        refine ⟨M, cs', qs, k1, k2, k3, by rw [k4, hmap, hsum], by rw [k4, hmap, hsum], fun f hf => ?_⟩
        obtain ⟨k, hk⟩ := List.mem_iff_getElem?.1 hf
        obtain ⟨g, hg, hoff⟩ := h4 k f hk
        refine ⟨g, hg, ?_⟩
        have h8 := k5 k f.type (by rw [List.getElem?_map, hk]; rfl)
        rw [hmap] at h8
        rw [Nat.zero_add] at hoff
        rw [hoff, ← hP.cells hg]; exact h8
      · cases h1
    | array na e =>
      rw [hdd] at hs hund
      simp only [Bool.and_eq_true] at hs
      obtain ⟨h1, h2⟩ := hs
      split at h1
      · rename_i g hg
        have hsz := beq_eq h1
        have hcg := hP.cells hg
        obtain ⟨xs, n', rfl, _, h5, h6, h7⟩ := DataW.trod_array hund hd
        have hmap : ((List.range na).map fun _ => e).map P.cellsOf = (List.range na).map fun _ => g.size := by simp [hcg]
        obtain ⟨M, cs', qs, k1, k2, k3, k4, k5⟩ := lays_chop (enc := enc) (m := m) hP ih ((List.range na).map fun _ => e) (fun t ht => by
          obtain ⟨_, _, rfl⟩ := List.mem_map.1 ht
          exact ⟨g, hg, h2⟩) cs (by rw [hmap, sum_const, h5, hcell, hsz]) L hL (fun k t hk => by
          rw [List.getElem?_map] at hk
          have hkn : k < na := by
            by_cases h : k < na
            · exact h
            · rw [List.getElem?_eq_none (by simp; omega)] at hk; cases hk
          rw [List.getElem?_range hkn] at hk; cases hk
          rw [hmap, getD_map_const _ _ _ (by simp; omega)]
          have h8 := h7 k hkn
          rw [hcg] at h8 ⊢
          have : k < xs.length := by omega
          exact ⟨n', xs[k], h8.trans (List.getElem?_eq_getElem this)⟩)
        refine ⟨M, cs', qs, k1, k2, k3, by rw [k4, hmap, sum_const, hsz], by rw [k4, hmap, sum_const, hsz], g, hg, fun k hk => ?_⟩
        have h8 := k5 k e (by rw [List.getElem?_map, List.getElem?_range hk]; rfl)
        rw [hmap, getD_map_const _ _ _ (by simp; omega), hcg] at h8
        exact h8
      · cases h1
    | slice e =>
      rw [hdd] at hs hund
      simp only [Bool.and_eq_true] at hs
      obtain ⟨h0, h1, h2⟩ := hs
      split at h1
      · rename_i g hg
        have hgp := blt_lt h1
        have hcg := hP.cells hg
        rcases DataW.trod_slice hund hd with ⟨rfl, _⟩ | ⟨a, len, cap, elems, rest, n', rfl, rfl, _, _, hlc, hcm, hel, helem, hrest, _⟩
        · exact ⟨[], [.slice none 0 0], [.lst e true 0 fun _ => []], hL, .cons .nilSlice .nil, .cons (.nil _ _) .nil, by simp [beq_eq h0], true, 0, _, rfl, fun _ => rfl, Nat.zero_le _, fun k hk => by omega⟩
        · -- the elements' cells
          have hex : ∀ k, k < cap → ∃ l, W.cells? 0 (a.add (k * g.size)) g.size = some l := by
            intro k hk
            by_cases hkl : k < len
            · have h3 := helem k hkl
              rw [hcg] at h3
              have : k < elems.length := by omega
              rw [List.getElem?_eq_getElem this] at h3
              obtain ⟨l, h4, _⟩ := Option.bind_eq_some_iff.1 h3
              exact ⟨l, h4⟩
            · obtain ⟨h3, h4⟩ := hrest rfl
              have h5 := h4 (k - len) (by omega)
              rw [show len + (k - len) = k by omega, hcg] at h5
              have : k - len < rest.length := by omega
              rw [List.getElem?_eq_getElem this] at h5
              obtain ⟨l, h6, _⟩ := Option.bind_eq_some_iff.1 h5
              exact ⟨l, h6⟩
          have hblk : 0 < cap → a.spot = none ∧ ∃ c e' fr, W.heap[a.block]? = some (.cells c e' fr) := by
            intro hc
            obtain ⟨l, hl⟩ := hex 0 hc
            obtain ⟨h3, h4⟩ := cells_of hl
            have h5 : l[0]? = some (l[0]'(by omega)) := List.getElem?_eq_getElem _
            have h6 := h4 0 _ h5
            rw [show (a.add (0 * g.size)).add 0 = a by simp [Addr.add]] at h6
            obtain ⟨h7, c, e', fr, h8, _⟩ := cell_of h6
            exact ⟨h7, c, e', fr, h8⟩
          have hpick : ∀ k, ∃ l : List Value, k < len → W.cells? 0 (a.add (k * g.size)) g.size = some l ∧ ∃ d, DataW.trod enc P W 0 (fun _ => true) true n' e l = some d := by
            intro k
            by_cases hkl : k < len
            · have h3 := helem k hkl
              rw [hcg] at h3
              have : k < elems.length := by omega
              rw [List.getElem?_eq_getElem this] at h3
              obtain ⟨l, h4, h5⟩ := Option.bind_eq_some_iff.1 h3
              exact ⟨l, fun _ => ⟨h4, _, h5⟩⟩
            · exact ⟨[], fun h => absurd h hkl⟩
          obtain ⟨el, hel2⟩ := Classical.axiomOfChoice hpick
          have hlen2 : ∀ k, k < len → (el k).length = g.size := fun k hk => (cells_of (hel2 k hk).1).1
          obtain ⟨M, acc, f, k1, k2, k3, k4⟩ := lays_elems (enc := enc) (m := m) (el := el) (len := len) hg rfl (fun c L hL hc => ih e g c L hg h2 hL hc) (fun k hk => ⟨hlen2 k hk, n', (hel2 k hk).2⟩) len (Nat.le_refl _) L hL
          -- where they lie
          have hflat : ∀ (k p : Nat) (v : Value), k ≤ len → ((List.range k).flatMap el)[p]? = some v → ∃ q, q < k ∧ W.cell? ((a.add (q * g.size)).add (p - q * g.size)) = some v ∧ q * g.size ≤ p := by
            intro k
            induction k with
            | zero => intro p v _ h; simp at h
            | succ k ih2 =>
              intro p v hk h
              rw [List.range_succ, List.flatMap_append] at h
              have hfl : ((List.range k).flatMap el).length = k * g.size := by
                clear h ih2
                induction k with
                | zero => simp
                | succ k ih3 => rw [List.range_succ, List.flatMap_append, List.length_append, ih3 (by omega)]; simp [hlen2 k (by omega), Nat.succ_mul]
              by_cases hp : p < k * g.size
              · rw [List.getElem?_append_left (by omega)] at h
                obtain ⟨q, h3, h4, h5⟩ := ih2 p v (by omega) h
                exact ⟨q, by omega, h4, h5⟩
              · rw [List.getElem?_append_right (by omega), hfl] at h
                simp at h
                refine ⟨k, by omega, (cells_of (hel2 k (by omega)).1).2 _ v h, by omega⟩
          by_cases hc0 : cap = 0
          · subst hc0
            obtain rfl : len = 0 := by omega
            refine ⟨[(⟨0, 0, 0, 0⟩, ([], e))], [.slice (some ⟨L.length, 0, none⟩) 0 0], [.lst e false 0 fun _ => []], hL.cons ⟨hW, fun h => absurd rfl h⟩, .cons (.slice ⟨⟨0, 0, 0, 0⟩, ?_, fun h => absurd rfl h, fun h => absurd rfl h, Nat.le_refl _, fun _ => rfl, Nat.le_refl _, .inl rfl⟩) .nil,
              .cons (.lst (sz := 0) (fun _ => []) ?_ (rdc_seg (s := (⟨0, 0, 0, 0⟩, ([], e))) ?_ _) (Nat.le_refl _) (Nat.zero_le _) (.inl rfl) (fun k hk => by omega) (fun k hk => by omega)) .nil, by simp [beq_eq h0], false, 0, _, rfl, fun _ => rfl, Nat.zero_le _, fun k hk => by omega⟩
            · show (sOf (_ :: L) L.length).map (·.1) = _
              rw [sOf, if_pos rfl]; rfl
            · show L.length < (_ :: L).length; simp
            · show sOf (_ :: L) L.length = _
              rw [sOf, if_pos rfl]
          · obtain ⟨hsp, c, e', fr, hb⟩ := hblk (by omega)
            have hseg : SegOk E W (jOf (M ++ L)) (⟨a.block, a.off, c.size, g.size⟩, (acc, e)) := by
              refine ⟨(Array.getElem?_eq_some_iff.1 hb).1, fun hne => ⟨c, e', fr, hb, rfl, ?_, fun t ht => by rw [hg] at ht; cases ht; rfl, fun p v hv => ?_⟩⟩
              · have hlp : 0 < len := by
                  cases len with
                  | zero => simp at k2; exact absurd k2 (by simpa using hne)
                  | succ _ => omega
                have h3 := (cells_of (hel2 (len - 1) (by omega)).1)
                have hgl : (el (len - 1))[g.size - 1]? = some ((el (len - 1))[g.size - 1]'(by rw [h3.1]; omega)) := List.getElem?_eq_getElem _
                obtain ⟨_, c2, e2, fr2, h4, h5⟩ := cell_of (h3.2 _ _ hgl)
                rw [(add_off _ _).2, (add_off _ _).2, hb] at h4
                cases h4
                have h6 := (Array.getElem?_eq_some_iff.1 h5).1
                rw [(add_off _ _).1, (add_off _ _).1] at h6
                show a.off + acc.length ≤ c.size
                rw [k2]
                have : (len - 1) * g.size + g.size = len * g.size := by rw [← Nat.succ_mul]; congr 1; omega
                omega
              · obtain ⟨v', h3, h4⟩ := k3.get hv
                obtain ⟨q, h5, h6, h7⟩ := hflat len p v' (Nat.le_refl _) h3
                obtain ⟨_, c2, e2, fr2, h8, h9⟩ := cell_of h6
                rw [(add_off _ _).2, (add_off _ _).2, hb] at h8
                cases h8
                rw [(add_off _ _).1, (add_off _ _).1] at h9
                refine ⟨v', ?_, h4⟩
                show c[a.off + p]? = _
                rw [show a.off + p = a.off + q * g.size + (p - q * g.size) by omega]; exact h9
            have hso : sOf ((⟨a.block, a.off, c.size, g.size⟩, (acc, e)) :: (M ++ L)) (M ++ L).length = some (⟨a.block, a.off, c.size, g.size⟩, (acc, e)) := by rw [sOf, if_pos rfl]
            refine ⟨(⟨a.block, a.off, c.size, g.size⟩, (acc, e)) :: M, [.slice (some ⟨(M ++ L).length, 0, none⟩) len cap], [.lst e false len f], k1.cons hseg, .cons (.slice ⟨⟨a.block, a.off, c.size, g.size⟩, ?_, fun _ => rfl, fun _ => hsp, hlc, fun _ => rfl, Nat.le_refl _, .inr ⟨by show a.off = 0 + a.off; omega, .inl rfl⟩⟩) .nil,
              .cons ?_ .nil, by simp [beq_eq h0], false, len, f, rfl, fun h => (by cases h), (by omega), fun k hk => (k4 k hk).elim fun gi h => h.2.2⟩
            · show (sOf _ _).map (·.1) = _
              rw [List.cons_append, hso]; rfl
            · have hch : ∀ k, ∃ gi : List Value, k < len → cut acc (k * g.size) g.size = some gi ∧ PL E (M ++ L) (f k) gi := by
                intro k
                by_cases hk : k < len
                · obtain ⟨gi, h3, h4, _⟩ := k4 k hk
                  exact ⟨gi, fun _ => ⟨h3, h4⟩⟩
                · exact ⟨[], fun h => absurd h hk⟩
              obtain ⟨gg, hgg⟩ := Classical.axiomOfChoice hch
              refine .lst (sz := g.size) gg ?_ (rdc_seg (s := (⟨a.block, a.off, c.size, g.size⟩, (acc, e))) hso _) hlc (Nat.zero_le _) (.inl rfl) (fun k hk => ?_) (fun k hk => ?_)
              · show (M ++ L).length < (_ :: (M ++ L)).length
                simp
              · rw [Nat.zero_add]; exact (hgg k hk).1
              · exact (hgg k hk).2.mono [_]
      · cases h1
    | _ => rw [hdd] at hs; cases hs
end
end Go.Proofs.YtncpeobcgmkkbaaGreat
/- The lift: a walk over values says what the machine does. -/
namespace Go.Proofs.YtncpeobcgmkkbaaGreat
open Go.ChangeShapes Go.WideShapes Go.RowKit
section
variable {H : Type} {enc : TypeId × Value → H} {P : Program} {E : Env} {W : World}
noncomputable def aggT (E : Env) (t : TypeId) : Bool := match E.ti.get t with
  | some i => isAggD i.desc
  | none => false
/-- An argument, as a walk sees it. -/
noncomputable def argAV (E : Env) (t : TypeId) (q : List PV) : AV := bif aggT E t then .agg (q.map .p) else .p (q.headD .nilp)
noncomputable def argAVs (E : Env) : List TypeId → List (List PV) → List AV
  | t :: ts, q :: qs => argAV E t q :: argAVs E ts qs
  | _, _ => []
def Shs (E : Env) (m : Nat) : List TypeId → List (List PV) → Prop
  | [], [] => True
  | t :: ts, q :: qs => Sh E m t q ∧ Shs E m ts qs
  | _, _ => False
theorem okWide_form {base : Nat} {t : TypeId} {v : Value} {d : TypeDesc} (hd : P.underlying t = some d) (h : Value.okWide P W .any base t v) (hs : isAggD d = true ∨ d = .bool ∨ (∃ k, d = .int k) ∨ d = .string ∨ ∃ e, d = .slice e) : (isAggD d = true → ∃ cs, v = .agg cs) ∧ (isAggD d = false → v.cells = #[v]) := by
  unfold Value.okWide at h
  rw [hd] at h
  refine ⟨fun ha => ?_, fun ha => ?_⟩
  · cases d <;> first | (cases ha; done) | (obtain ⟨cs, rfl, _⟩ := h; exact ⟨cs, rfl⟩)
  · rcases hs with hs | rfl | ⟨k, rfl⟩ | rfl | ⟨e, rfl⟩
    · rw [hs] at ha; cases ha
    all_goals
      change Cell.okWide P W .any base t v at h
      unfold Cell.okWide at h
      rw [hd] at h
      cases v <;> first | rfl | (change Cell.ok P W .any base t _ at h; unfold Cell.ok at h; rw [hd] at h; exact h.elim)
theorem sup_form {m : Nat} {t : TypeId} (h : sup E m t = true) : ∃ i, E.ti.get t = some i ∧ (isAggD i.desc = true ∨ i.desc = .bool ∨ (∃ k, i.desc = .int k) ∨ i.desc = .string ∨ ∃ e, i.desc = .slice e) := by
  cases m with
  | zero => cases h
  | succ m =>
    unfold sup at h
    split at h
    · cases h
    · rename_i i hi
      refine ⟨i, hi, ?_⟩
      cases hd : i.desc <;> rw [hd] at h <;> first | (cases h; done) | (left; rfl) | (right; left; rfl) | (right; right; left; exact ⟨_, rfl⟩) | (right; right; right; left; rfl) | (right; right; right; right; exact ⟨_, rfl⟩)
theorem lays_args (hP : TiP P E) (hW : 0 < W.heap.size) {m base : Nat} : ∀ {ts : List TypeId} {vs : List Value} {ds : List (DataW H)} {ps : List MemPlace} {L : List Seg}, Valid E W L → (ts.all fun t => sup E m t) = true → DataW.TrodAll enc P W 0 (fun _ => true) true ts vs ds ps →
    (∀ (j : Nat) t v, ts[j]? = some t → vs[j]? = some v → Value.okWide P W .any base t v) →
    ∃ M vs' qs, Valid E W (M ++ L) ∧ VsRel (jOf (M ++ L)) vs' vs ∧ Shs E m ts qs ∧ ∀ j, VRs (withRom E (romOf (M ++ L))) (st0 (M ++ L)) (fun b => b < (M ++ L).length) j (argAVs E ts qs) vs'
  | [], vs, ds, ps, L, hL, _, h, _ => by
    obtain ⟨rfl, rfl, rfl⟩ := trodAll_nil h
    exact ⟨[], [], [], hL, .nil, trivial, fun j => .nil⟩
  | t :: ts, vs, ds, ps, L, hL, hs, h, hv => by
    obtain ⟨v, vs1, d, ds1, a, b, rfl, rfl, rfl, ⟨n, h1⟩, h2⟩ := trodAll_cons h
    simp only [List.all_cons, Bool.and_eq_true] at hs
    obtain ⟨i, hi, hform⟩ := sup_form hs.1
    have hund := (hP.ti t i hi).und
    obtain ⟨f1, f2⟩ := okWide_form hund (hv 0 t v rfl rfl) hform
    obtain ⟨M1, cs', qs, k1, k2, k3, k4, k5⟩ := lays (enc := enc) hP hW m t i _ L hi hs.1 hL ⟨n, _, h1⟩
    obtain ⟨M2, vs', qss, m1, m2, m3, m4⟩ := lays_args hP hW k1 hs.2 h2 (fun j t' v' h3 h4 => hv (j + 1) t' v' (by simpa using h3) (by simpa using h4))
    cases hag : isAggD i.desc with
    | true =>
      obtain ⟨cs, rfl⟩ := f1 hag
      refine ⟨M2 ++ M1, .agg cs'.toArray :: vs', qs :: qss, by rw [List.append_assoc]; exact m1, by rw [List.append_assoc]; exact .cons (.agg (by have := k2.mono (jOf_le M2 (M1 ++ L)); exact this)) m2, ⟨k5, m3⟩, fun j => ?_⟩
      rw [List.append_assoc]
      refine .cons ?_ (m4 j)
      unfold argAV aggT
      rw [hi]
      simp only [hag, cond_true]
      have := k3.mono M2
      exact .agg this.scalars this.toV
    | false =>
      have hc := f2 hag
      have hk2 := k2
      rw [hc] at hk2
      cases hk2 with
      | cons r1 r2 =>
        cases r2
        rename_i u
        cases k3 with
        | cons p1 p2 =>
          cases p2
          rename_i q
          refine ⟨M2 ++ M1, u :: vs', [q] :: qss, by rw [List.append_assoc]; exact m1, by rw [List.append_assoc]; exact .cons (r1.mono (jOf_le M2 (M1 ++ L))) m2, ⟨k5, m3⟩, fun j => ?_⟩
          rw [List.append_assoc]
          refine .cons ?_ (m4 j)
          unfold argAV aggT
          rw [hi]
          simp only [hag, cond_false]
          have := (PL.mono (E := E) (L := M1 ++ L) M2 (qs := [q]) (vs := [u]) (.cons p1 .nil))
          cases this with
          | cons h _ => exact .p h
/-- What a walk over values says of the machine. -/
theorem law_calls (hG : ∀ r, GoodOK ⟨P, withRom E r⟩) (hW : 0 < W.heap.size) {m base : Nat} {f : FuncId} {ts : List TypeId} {args : Array Value} {ds : List (DataW H)} {ps : List MemPlace} {t : Bool} (hs : (ts.all fun t => sup E m t) = true) (hT : DataW.TrodAll enc P W 0 (fun _ => true) true ts args.toList ds ps)
    (hv : ∀ (j : Nat) t v, ts[j]? = some t → args.toList[j]? = some v → Value.okWide P W .any base t v) (main : ∀ r qs, Shs E m ts qs → VP (withRom E r) f (argAVs E ts qs) (.p (.bool t))) :
    Calls P f args W fun e W' => e = .returned (.bool t) ∧ SameIo W W' ∧ W.heap.size ≤ W'.heap.size ∧ ∀ c, c < W.heap.size → W'.heap[c]? = W.heap[c]? := by
  have hP : TiP P E := ⟨fun t x h => (hG .nil).ti t x h⟩
  obtain ⟨L, vs', qs, h1, h2, h3, h4⟩ := lays_args (enc := enc) hP hW (L := []) Valid.nil hs hT hv
  rw [List.append_nil] at h1 h2 h4
  have hSR : SR (withRom E (romOf L)) (st0 L) (fun b => b < L.length) (fun _ => none) [] := by
    refine ⟨fun b hb => hb, fun i b h => (by cases h), fun i i' b h => (by cases h), fun _ _ => rfl, fun i vb h => (by cases h), fun b c hb => ⟨?_, fun i h => (by cases h)⟩⟩
    have hb : (romOf L).get b = some c := hb
    rw [romOf_get] at hb
    cases hsb : sOf L b with
    | none => rw [hsb] at hb; cases hb
    | some s => exact sOf_lt hsb
  obtain ⟨n, v, S', k1, a, L', Z', j', k2, k3, k4, k5, _, rfl, rfl⟩ := (main (romOf L) qs h3).2 (st0 L) _ _ vs' hSR (h4 _) (Nat.le_refl _)
  cases k3 with
  | p k3 =>
    cases k3
    obtain ⟨_, h5⟩ := (run_sound (hG (romOf L)) n).1 f vs' _ _ _ (k1 n (Nat.le_refl _))
    obtain ⟨_, h6⟩ := h5 (jOf L) args W (simOf h1) h2
    refine h6.mono ?_
    rintro e W' ⟨v', jj, rfl, hvv, _, he⟩
    have := hvv.bool_inv; subst this
    refine ⟨rfl, he.io, he.heap, fun c hc => he.fr c hc fun b x hb hlo _ _ => ?_⟩
    have hlow : L.length ≤ S'.low := k4.low.2 L.length (Nat.le_refl _) (Nat.le_refl _) (fun i b h => by cases h)
    have : b < L.length := by
      unfold jOf at hb
      cases hsb : sOf L b with
      | none => rw [hsb] at hb; cases hb
      | some s => exact sOf_lt hsb
    omega
end
end Go.Proofs.YtncpeobcgmkkbaaGreat
/- The row: what a law that returns true and leaves its arguments has to show. -/
namespace Go.Proofs.YtncpeobcgmkkbaaGreat
open Go.ChangeShapes Go.WideShapes Go.RowKit
section
variable {H : Type} {enc : TypeId × Value → H} {P : Program}
theorem below_of {W W' : World} (hio : SameIo W W') (hs : W.heap.size ≤ W'.heap.size) (hb : ∀ c, c < W.heap.size → W'.heap[c]? = W.heap[c]?) : Below W.heap.size W W' := ⟨hio.1, hio.2.1, hio.2.2, hs, hb⟩
theorem kept_of {W W' : World} (h : Below W.heap.size W W') (may : MemPlace → Prop) : W.keptBut W' may := by
  refine ⟨h.os, h.output, fun i hi => ?_⟩
  rw [h.block i hi]
  rw [Array.getElem?_eq_getElem hi]
  cases W.heap[i] <;> simp
theorem trodAll_stays (hl : laidOutB P = true) {W W' : World} (hb : Below W.heap.size W W') {sp : Nat → Bool} : ∀ {ts : List TypeId} {vs : List Value} {ds : List (DataW H)} {ps : List MemPlace},
    (ts.all fun t => P.readableRec t && decide (t < P.types.size)) = true → DataW.TrodAll enc P W 0 (fun _ => true) true ts vs ds ps → (∀ x ∈ ps, x.block < W.heap.size) → (∀ x ∈ ps, sp x.block = true) → DataW.TrodAll enc P W' 0 sp true ts vs ds ps
  | [], vs, ds, ps, _, h, _, _ => by
    obtain ⟨rfl, rfl, rfl⟩ := trodAll_nil h
    exact rfl
  | t :: ts, vs, ds, ps, ht, h, hlt, hsp => by
    obtain ⟨v, vs1, d, ds1, a, b, rfl, rfl, rfl, h1, h2⟩ := trodAll_cons h
    simp only [List.all_cons, Bool.and_eq_true, decide_eq_true_eq] at ht
    refine ⟨a, b, WideElems.Trod_stays hl ht.1.1 ht.1.2 h1 (fun x hx => hb.same (hlt x (by simp [hx]))) (fun x hx => hsp x (by simp [hx])), trodAll_stays hl hb ?_ h2 (fun x hx => hlt x (by simp [hx])) (fun x hx => hsp x (by simp [hx])), rfl⟩
    exact ht.2
/-- The post of a law: it has returned true; its arguments read as they did. -/
theorem law_post (hl : laidOutB P = true) {f : Func} {s : ChangeSpec} {apart fresh handsOn again : Bool} {W W' : World} {args : Array Value} {ds gs : List (DataW H)} {before : List MemPlace} {tb : TypeId}
    (hps : (f.params.toList.all fun t => P.readableRec t && decide (t < P.types.size)) = true) (hrt : f.resultTypes = #[tb]) (htb : P.underlying tb = some .bool) (hvs : s.vars = [])
    (hres : (s.fn H (ds ++ gs)).results = [.lit (.bool true)]) (hargs : (s.fn H (ds ++ gs)).args = ds) (hvars : (s.fn H (ds ++ gs)).vars = [])
    (hW : DataW.Whole enc P f.params.toList s.vars apart W args.toList ds gs before) (hb : Below W.heap.size W W') :
    s.post enc P f apart fresh handsOn again W args (.bool true) W' := by
  have hlt := fun p hp => hW.lt p hp
  have hW0 := hW
  obtain ⟨p, q, hA, hV, rfl, hz, hn⟩ := hW
  rw [hvs] at hV
  obtain ⟨rfl, rfl⟩ := trodVars_none hV
  have hA' : ∀ sp : Nat → Bool, (∀ x ∈ p, sp x.block = true) → DataW.TrodAll enc P W' 0 sp true f.params.toList args.toList ds p := fun sp hsp =>
    trodAll_stays hl hb hps hA (fun x hx => hlt x (by simp [hx])) hsp
  have hR : ∀ (b : Nat) (sp : Nat → Bool) (hd : Bool), DataW.TrodAll enc P W' b sp hd f.resultTypes.toList ((Value.bool true).resultList f.resultTypes.size) [.lit (.bool true)] [] := fun b sp hd => by
    rw [hrt]
    exact trodAll_mk1 (shut_bool htb _)
  have hok : ∀ (j : Nat) (t : TypeId) (r : Value), f.resultTypes[j]? = some t → ((Value.bool true).resultList f.resultTypes.size)[j]? = some r → Value.okWide P W' .any 0 t r := by
    exact ok_one hrt rfl (okWide_bool_mk htb _)
  have hold : ∀ x ∈ p, (fun b => decide (b < W.heap.size)) x.block = true := fun x hx => by simpa using hlt x (by simp [hx])
  refine ⟨ds, [], p ++ [], [], p, [], hW0, by rw [hres]; exact hR _ _ _, by rw [hargs]; exact hA' _ hold, by rw [hvs, hvars]; rfl, World.keptBut_mono (fun x hx => ⟨by simpa using hx, .inr (.inl (by simpa using hx))⟩) (kept_of hb (fun x => x ∈ p)), fun _ => ?_⟩
  refine ⟨hok, [.lit (.bool true)] ++ ds, [], ([] ++ p) ++ [], ⟨[] ++ p, [], trodAll_append (hA' _ (fun _ _ => rfl)) (hR _ _ _), by rw [hvs]; rfl, rfl, ?_, ?_⟩, ?_⟩
  · intro b off hp
    have hbl : b < W.heap.size := hlt (.cell b off) (by simpa using hp)
    have h1 := hz b off (by simpa using hp)
    unfold World.frozen? at h1 ⊢
    rw [hb.block b hbl]; exact h1
  · intro ha
    have := hn ha
    simpa using this
  · intro x hx _
    simpa using hx
end
end Go.Proofs.YtncpeobcgmkkbaaGreat
/- The row: what a law that is true has to show, and no more. -/
namespace Go.Proofs.YtncpeobcgmkkbaaGreat
open Go.ChangeShapes Go.WideShapes Go.RowKit
section
variable {H : Type} {enc : TypeId × Value → H}
theorem law_handed {C : Checked} {os : Os} {E : Env} {f : FuncId} {fn : Func} {s : ChangeSpec} {fresh handsOn again : Bool} {m : Nat} {tb : TypeId}
    (own : ownKnob C.prog.godebug = none) (started : os.Started) (noInit : C.prog.inits.idxOf? f = none) (hfn : C.prog.funcs[f]? = some fn)
    (witness : ∃ (w : World) (tape : Tape) (i : Input), w.os = os ∧ (w.forCall tape i).Shaped C.prog ∧ i.vars = [] ∧ Input.okWide C.prog (w.forCall tape i) .any w.heap.size f i ∧
      s.pre6 enc C.prog fn [] false (w.forCall tape i).memory i.args ∧ ({} : Assume).holds C.prog (lone (Frame.enter C.prog f i.args .normal) [] (w.forCall tape i)))
    (hsize : C.prog.globals.size < (begin C.prog (fun _ _ => 0) default).world.heap.size) (hG : ∀ r, GoodOK ⟨C.prog, withRom E r⟩) (hs : (fn.params.toList.all fun t => sup E m t) = true)
    (hl : laidOutB C.prog = true) (hps : (fn.params.toList.all fun t => C.prog.readableRec t && decide (t < C.prog.types.size)) = true) (hrt : fn.resultTypes = #[tb]) (htb : C.prog.underlying tb = some .bool) (hvs : s.vars = [])
    (hres : ∀ ds : List (DataW H), ds.length = fn.params.size → (s.fn H (ds ++ [])).results = [.lit (.bool true)] ∧ (s.fn H (ds ++ [])).args = ds ∧ (s.fn H (ds ++ [])).vars = [])
    (main : ∀ r qs, Shs E m fn.params.toList qs → VP (withRom E r) f (argAVs E fn.params.toList qs) (.p (.bool true))) :
    ReturnsInHanded {} C os f .any (s.pre6 enc C.prog fn [] false) (s.post enc C.prog fn false fresh handsOn again) := by
  refine returnsInHanded_of_calls own started noInit witness ?_
  intro w tape i _ hshaped _ hok hpre hholds
  obtain ⟨_, _, _, fn', hfn', _, _, _, _, hval⟩ := hok
  have e : fn' = fn := Option.some.inj (hfn'.symm.trans hfn)
  subst e
  obtain ⟨⟨ds, gs, before, hw, hc⟩, _⟩ := hpre
  have hw' := DataW.Whole.of_heap (w' := w.forCall tape i) (by rfl) hw
  have hW : 0 < (w.forCall tape i).heap.size := by
    obtain ⟨o, _, ho, _⟩ := hshaped.2 _ (Nat.le_refl _) hsize
    have := (Array.getElem?_eq_some_iff.1 ho).1
    omega
  obtain ⟨p, q, hA, hV, _⟩ := id hw'
  rw [hvs] at hV
  obtain ⟨rfl, _⟩ := trodVars_none hV
  have hlen : ds.length = fn'.params.size := by
    have : ∀ {ts : List TypeId} {vs : List Value} {ds : List (DataW H)} {ps : List MemPlace}, DataW.TrodAll enc C.prog (w.forCall tape i) 0 (fun _ => true) true ts vs ds ps → ds.length = ts.length := by
      intro ts
      induction ts with
      | nil => intro vs ds ps h; obtain ⟨_, rfl, _⟩ := trodAll_nil h; rfl
      | cons t ts ih =>
        intro vs ds ps h
        obtain ⟨v, vs1, d, ds1, a, b, rfl, rfl, rfl, _, h2⟩ := trodAll_cons h
        simp [ih h2]
    rw [this hA, Array.length_toList]
  obtain ⟨r1, r2, r3⟩ := hres ds hlen
  have hcalls := law_calls (enc := enc) (P := C.prog) (E := E) (W := w.forCall tape i) (base := w.heap.size) (f := f) (ts := fn'.params.toList) (args := i.args) (t := true) hG hW hs hA (fun j t v h1 h2 => hval j t v (by rw [← Array.getElem?_toList]; exact h1) (by rw [← Array.getElem?_toList]; exact h2)) main
  refine hcalls.mono ?_
  rintro e W' ⟨rfl, hio, hsz, hsame⟩
  refine ChangeSpec.post_blind (law_post hl hps hrt htb hvs r1 r2 r3 hw' (below_of hio hsz hsame))
end
end Go.Proofs.YtncpeobcgmkkbaaGreat
/- Walks over values: a range whose state is a function of the number of rounds; short forms. -/
namespace Go.Proofs.YtncpeobcgmkkbaaGreat
noncomputable section
section
variable {E : Env} {N : Nat} {st : List Nat} {rd : Option Nat} {Q : VPost} {tb : Tab}
theorem VSt.rangeF (hT : TabOK E tb = true) {ti tn tc ts idb id2 r1 r2 : Nat} {t1 t2 t3 t4 ty1 ty2 ty3 : TypeId} {p1 p2 p3 : String} {a1 a2 a3 : Array Edge} {body : Code} {K : List KI} {F : VK} {L : VS} (n : Nat) (hn : n < 9223372036854775808) (G : Nat → VK) (M : Nat → VS) (P : Nat → Prop)
    (hN : (Nat.blt tc N && (Nat.blt ts N && Nat.blt ti N)) = true) (hne : (!Nat.beq tc ti && (!Nat.beq tc tn && (!Nat.beq ts ti && (!Nat.beq ts tn && !Nat.beq ti tn)))) = true)
    (hcl : ∀ k, ((G k).all fun p => !Nat.beq ti p.1 && !Nat.beq ts p.1) = true)
    (h0 : Vw E st F L ((ti, nv 0) :: (tn, nv n) :: G 0) (M 0)) (hP : P 0)
    (hb : ∀ k, k < n → P k → VSt.H E N st rd Q (.code body (.block id2 :: .inv (fun F' L' => Vw E st F' L' ((ti, nv k) :: (tn, nv n) :: G (k + 1)) (M (k + 1)) ∧ P (k + 1)) :: .block idb :: K) ((tc, .p (.bool true)) :: (ti, nv k) :: (tn, nv n) :: G k) (M k)))
    (he : P n → VSt.H E N st rd Q (.ex .normal K ((tc, .p (.bool false)) :: (ti, nv n) :: (tn, nv n) :: G n) (M n))) :
    VSt.H E N st rd Q (.code (.loop (.seq (.region r1 #[⟨some tc, .binOp .lss t1 (.tmp ti) (.tmp tn) t2, ty1, p1, a1, none⟩] false)
      (.seq (.cond (.tmp tc) .skip (.exit idb)) (.seq (.block id2 body) (.region r2 #[⟨some ts, .binOp .add t3 (.tmp ti) (.const (.int .i64 1)) t4, ty2, p2, a2, none⟩, ⟨some ti, .move (.tmp ts), ty3, p3, a3, none⟩] false))))) (.block idb :: K) F L) := by
  refine VSt.range hT n hn (fun k l L => l = G k ∧ L = M k ∧ P k) hN hne ⟨G 0, M 0, h0, rfl, rfl, hP⟩ ?_ ?_
  · rintro k l L hk ⟨rfl, rfl, hp⟩
    refine VW.mono (hb k hk hp) ?_
    intro e F' L' h
    cases e with
    | normal => exact ⟨_, _, h.1, ⟨rfl, rfl, h.2⟩, hcl _⟩
    | ret => exact h
    | exit i =>
      show if i = id2 then _ else _
      change (if i = id2 then _ else _) at h
      split at h
      · rename_i e; rw [if_pos e]; exact ⟨_, _, h.1, ⟨rfl, rfl, h.2⟩, hcl _⟩
      · rename_i e; rw [if_neg e]; exact h
  · rintro l L ⟨rfl, rfl, hp⟩
    exact he hp
theorem Vw.drop {F F0 : VK} {L : VS} (h : ∀ p ∈ F0, ∃ a, ak F p.1 = some a ∧ a.only (olds []) = true ∧ AImp (a.ren (rnk [])) p.2) : Vw E [] F L F0 [] := Wk.vw ⟨rfl, rfl, h, [], rfl, trivial⟩
end
def AImps : List AV → List AV → Prop
  | [], [] => True
  | a :: l, b :: m => AImp a b ∧ AImps l m
  | _, _ => False
theorem AImps.vrs {E : Env} {S : St} {Z : Nat → Prop} {j : Nm} : ∀ {l m : List AV} {vs : List Value}, AImps l m → VRs E S Z j l vs → VRs E S Z j m vs
  | [], [], _, _, h => h
  | _ :: _, _ :: _, _, h, .cons hv hl => .cons (h.1 _ _ _ _ _ hv) (h.2.vrs hl)
theorem VP.imp {E : Env} {f : Nat} {as bs : List AV} {r : AV} (h : VP E f bs r) (hi : AImps as bs) : VP E f as r := ⟨h.1, fun S Z j vs h1 h2 => h.2 S Z j vs h1 (hi.vrs h2)⟩
section
variable {E : Env} {N : Nat} {st : List Nat} {rd : Option Nat} {Q : VPost}
/-- The calls of functions that only return a value, the contract last. -/
theorem VSt.pc {ops : Array Oper} {o : Oper} {rest : List Oper} {K : List KI} {F : VK} {L : VS} {c : Call} {f : Operand} {g : FuncId} {first cap args l : List AV} {r : AV} (hg : vgl ops F o.guard = some true) (hd : dstOk o.dst N = true)
    (hop : o.op = .call c) (hc : c.callee = .value f) (hf : av F f = some (.fn g first cap)) (ha : avs F c.args.toList = some args) (hl : first ++ (args ++ cap) = l) (hon : AV.onlys (olds []) l = true) (hP : VP E g l r)
    (h : VSt.H E N st rd Q (.ops ops rest K (vbind o.dst r F) L)) : VSt.H E N st rd Q (.ops ops (o :: rest) K F L) := by
  subst hl; exact VSt.pcall hP hg hd hop hc hf ha hon h
theorem VSt.pcD {ops : Array Oper} {bs : List Nat} {ks : List (Nat × Option Nat)} {i : Nat} {o : Oper} {rest : List Oper} {K : List KI} {F : VK} {L : VS} {c : Call} {f : Operand} {g : FuncId} {first cap args l : List AV} {r : AV} (hg : vgl ops F o.guard = some true) (hd : dstOk o.dst N = true)
    (hop : o.op = .call c) (hc : c.callee = .value f) (hf : av F f = some (.fn g first cap)) (ha : avs F c.args.toList = some args) (hl : first ++ (args ++ cap) = l) (hon : AV.onlys (olds []) l = true) (hP : VP E g l r)
    (h : VSt.H E N st rd Q (.dops ops bs ks rest (i + 1) K (vbind o.dst r F) L)) : VSt.H E N st rd Q (.dops ops bs ks (o :: rest) i K F L) := by
  subst hl; exact VSt.pcallD hP hg hd hop hc hf ha hon h
end
def pk (ps : List (Nat × Nat)) (k : Nat) : Nat := match pl ps k with
  | some i => i
  | none => k
theorem wf_back {F F0 : VK} {ps : List (Nat × Nat)} {t : Nat} {a0 : AV} (h : ak F t = some (a0.ren (pk ps))) (ho : (a0.ren (pk ps)).only (olds ps) = true) (hr : (a0.ren (pk ps)).ren (rnk ps) = a0) (hl : ∀ p ∈ F0, ∃ a, ak F p.1 = some a ∧ a.only (olds ps) = true ∧ AImp (a.ren (rnk ps)) p.2) :
    ∀ p ∈ (t, a0) :: F0, ∃ a, ak F p.1 = some a ∧ a.only (olds ps) = true ∧ AImp (a.ren (rnk ps)) p.2 := wf_cons h ho hr hl
theorem AImp.of_eq {a b : AV} (h : a = b) : AImp a b := h ▸ AImp.refl a
section
variable {E : Env} {N : Nat} {st : List Nat} {rd : Option Nat} {Q : VPost}
theorem frr_put {S : St} {Z : Nat → Prop} {j : Nm} {T : Fr} {F : VK} {d : Nat} {a b : AV} (h : ak F d = some a) (hi : AImp a b) (hF : FRR E S Z j F T) : FRR E S Z j ((d, b) :: F) T := by
  intro x c hc
  rw [ak_cons] at hc
  split at hc
  · rename_i e; subst e
    cases hc
    obtain ⟨v, h1, h2⟩ := hF _ _ h
    exact ⟨v, h1, hi _ _ _ _ _ h2⟩
  · exact hF x c hc
theorem VSt.putO {ops : Array Oper} {rest : List Oper} {K : List KI} {F : VK} {L : VS} (d : Nat) {a : AV} (b : AV) (h : ak F d = some a) (hi : AImp a b) (h1 : VSt.H E N st rd Q (.ops ops rest K ((d, b) :: F) L)) : VSt.H E N st rd Q (.ops ops rest K F L) :=
  VSt.viewO (fun T S Z j k1 k2 => ⟨Z, j, k1, frr_put h hi k2, Ex.refl _ _ _, Stay.refl _ _⟩) h1
theorem VSt.putC {c : Code} {K : List KI} {F : VK} {L : VS} (d : Nat) {a : AV} (b : AV) (h : ak F d = some a) (hi : AImp a b) (h1 : VSt.H E N st rd Q (.code c K ((d, b) :: F) L)) : VSt.H E N st rd Q (.code c K F L) :=
  VSt.viewC (fun T S Z j k1 k2 => ⟨Z, j, k1, frr_put h hi k2, Ex.refl _ _ _, Stay.refl _ _⟩) h1
theorem VSt.putD {ops : Array Oper} {bs : List Nat} {ks : List (Nat × Option Nat)} {i : Nat} {rest : List Oper} {K : List KI} {F : VK} {L : VS} (d : Nat) {a : AV} (b : AV) (h : ak F d = some a) (hi : AImp a b) (h1 : VSt.H E N st rd Q (.dops ops bs ks rest i K ((d, b) :: F) L)) : VSt.H E N st rd Q (.dops ops bs ks rest i K F L) := by
  intro T S Z j D r0 k1 k2 k3 k4 k5 k6 k7
  obtain ⟨n, r, k8, F', L', Z2, j2, k9, k10⟩ := h1 T S Z j D r0 k1 k2 (frr_put h hi k3) k4 k5 k6 k7
  exact ⟨n, r, k8, F', L', Z2, j2, ⟨k9.n, k9.sr, k9.fr, k9.ex, k9.low, k9.stay⟩, k10⟩
end
theorem iv_nv {x : Int} {n : Nat} (h : x = Int.ofNat n) : AImp (iv x) (nv n) := h ▸ AImp.refl _
abbrev bv (b : Bool) : AV := .p (.bool b)
end
end Go.Proofs.YtncpeobcgmkkbaaGreat
/- Walks over values: ranges over functions. -/
namespace Go.Proofs.YtncpeobcgmkkbaaGreat
noncomputable section
def bindK (N : Nat) : List Tmp → List AV → VK → Option VK
  | [], [], G => some G
  | t :: ts, a :: as, G => bif Nat.blt t N then bindK N ts as ((t, a) :: G) else none
  | _, _, _ => none
section
variable {E : Env} {N : Nat} {st : List Nat} {rd : Option Nat} {tb : Tab}
theorem bindK_ok {S : St} {Z : Nat → Prop} {j : Nm} : ∀ {ps : List Tmp} {as : List AV} {vs : List Value} {G G1 : VK} {T : Fr}, bindK N ps as G = some G1 → FRR E S Z j G T → T.n = N → VRs E S Z j as vs → ∃ T1, bindArgs ps vs T = some T1 ∧ T1.n = N ∧ FRR E S Z j G1 T1
  | [], [], _, G, G1, T, h, hF, hN, .nil => by cases h; exact ⟨T, rfl, hN, hF⟩
  | [], _ :: _, _, G, G1, T, h, hF, hN, hv => by cases h
  | _ :: _, [], _, G, G1, T, h, hF, hN, hv => by cases h
  | t :: ts, a :: as, _, G, G1, T, h, hF, hN, .cons (v := v) (vs := vs) hv hl => by
    simp only [bindK] at h
    cases ht : Nat.blt t N with
    | false => rw [ht] at h; cases h
    | true =>
      rw [ht] at h
      obtain ⟨T1, h1, h2, h3⟩ := hF.put (d := t) (by rw [hN]; exact ht) hv
      obtain ⟨T2, h4, h5, h6⟩ := bindK_ok h h3 (h2.trans hN) hl
      refine ⟨T2, ?_, h5, h6⟩
      show ob (T.put (some t) v) _ = _
      rw [h1]; exact h4
theorem keys_of {S : St} {Z : Nat → Prop} {j : Nm} {L : VS} (hS : SR E S Z j L) {i b : Nat} (h : j i = some b) : i ∈ L.map (·.1) := by
  cases hb : bk L i with
  | none => rw [hS.dom i hb] at h; cases h
  | some v =>
    clear hS h
    induction L with
    | nil => cases hb
    | cons p l ih =>
      obtain ⟨k, w⟩ := p
      rw [bk_cons] at hb
      by_cases e : i = k
      · subst e; exact List.mem_cons_self
      · rw [if_neg e] at hb; exact List.mem_cons_of_mem _ (ih hb)
theorem ak_only {g : Nat → Bool} : ∀ {F : VK} {t : Nat} {a : AV}, ak F t = some a → onlyF g F = true → a.only g = true
  | [], t, a, h, _ => by cases h
  | (x, a0) :: l, t, a, h, ho => by
    simp only [onlyF, Bool.and_eq_true] at ho
    simp only [ak] at h
    cases hb : Nat.beq x t with
    | true => rw [hb] at h; cases h; exact ho.1
    | false => rw [hb] at h; exact ak_only h ho.2
theorem FRR.monoO {S S' : St} {Z Z' : Nat → Prop} {j j' : Nm} {F : VK} {T : Fr} {g : Nat → Bool} (h : FRR E S Z j F T) (hz : ZLe E S Z S' Z') (hj : ∀ i b, g i = true → j i = some b → j' i = some b) (ho : onlyF g F = true) : FRR E S' Z' j' F T := fun t a ha => by
  obtain ⟨v, h1, h2⟩ := h t a ha
  exact ⟨v, h1, h2.mono hz hj (ak_only ha ho)⟩
def inB (l : List Nat) (x : Nat) : Bool := l.any fun k => Nat.beq k x
theorem inB_mem {l : List Nat} {x : Nat} (h : inB l x = true) : x ∈ l := by
  obtain ⟨k, h1, h2⟩ := List.any_eq_true.1 h
  rw [← beq_eq h2]; exact h1
theorem put_low {S : St} {b : Nat} {o : LObj} (h : S.low ≤ S.size) : (S.put b o).low ≤ (S.put b o).size := Nat.le_trans (Nat.min_le_right _ _) h
theorem get_put_self {S : St} {b : Nat} {o : LObj} : (S.put b o).heap.get b = some o := by rw [get_put, if_pos rfl]
/-- A round: the loop's body is walked where it is yielded to. -/
theorem VO.yield {ops : Array Oper} {o : Oper} {rest : List Oper} {F : VK} {L : VS} {Q : VK → VS → Prop} {c : Call} {f : Operand} {i No : Nat} {as : List AV} {G G1 : VK} {ps : List Tmp} {asg body : Code} (hg : vgd ops F o.guard = some true) (hd : dstOk o.dst N = true)
    (hop : o.op = .call c) (hc : c.callee = .value f) (hf : av F f = some (.yld i)) (ha : avs F c.args.toList = some as) (hb : bk L i = some (.loop .ready none G No ps asg body)) (hk : bindK No ps as G = some G1) (st1 : List Nat) (hs1 : inB st1 i = true) (hs2 : onlyF (inB st1) F = true) (hs3 : (st.all (inB st1)) = true)
    (h : ∀ rd, VW E No st1 rd asg G1 L (fun e F1 L1 => e = .normal ∧ ∃ G2, bk L1 i = some (.loop .ready none G2 No ps asg body) ∧ VW E No st1 rd body F1 (up L1 i (.loop .busy none G2 No ps asg body)) (fun e F2 L2 =>
      ∃ F0 L0 pd G3, Vw E st1 F2 L2 F0 L0 ∧ bk L0 i = some (.loop .busy pd G3 No ps asg body) ∧ VO E N st ops rest (vbind o.dst (.lit (isNormal e)) F) (up L0 i (.loop (bf (isNormal e) .ready .done) (codeOf e) G3 No ps asg body)) Q))) : VO E N st ops (o :: rest) F L Q := by
  intro T S Z j h1 h2 h3 h4
  obtain ⟨v, k1, k2⟩ := h3.ev hf
  obtain ⟨vs, k3, k4⟩ := h3.evs ha
  cases k2 with
  | @yld _ b hj =>
    obtain ⟨b0, hj0, T0, e1, e2, e3⟩ := h2.blk i _ hb id
    rw [hj] at hj0; cases hj0
    obtain ⟨T1, b1, b2, b3⟩ := bindK_ok hk e3 e2 k4
    obtain ⟨n1, r1, q1, F1, L1, Z1, j1, q2, q3, G2, q4, q5⟩ := h (some b) T1 S Z j b2 h2 b3 h4
    have hj1 : j1 i = some b := q2.stay i (inB_mem hs1) b hj
    obtain ⟨b0, hj0, T2, f1, f2, f3⟩ := q2.sr.blk i _ q4 id
    rw [hj1] at hj0; cases hj0
    have z1 := zle_put q2.sr hj1 (.loop .busy none T2 ps asg body)
    have hS1 := q2.sr.put (o := .loop .busy none T2 ps asg body) (vb := .loop .busy none G2 No ps asg body) q4 hj1 ⟨T2, get_put_self, f2, f3.mono' z1 fun _ _ h => h⟩
    obtain ⟨n2, r2, p1, F2, L2, Z20, j20, p2, F0, L0, pd, G3, hw, p3, p4⟩ := q5 r1.T _ Z1 j1 q2.n hS1 (q2.fr.mono' z1 fun _ _ h => h) (put_low q2.low)
    obtain ⟨Z2, j2, w1, w2, w3, w4⟩ := hw r2.T r2.S Z20 j20 p2.sr p2.fr
    have hj2 : j2 i = some b := w4 i (inB_mem hs1) b (p2.stay i (inB_mem hs1) b hj1)
    obtain ⟨b0, hj0, T3, g1, g2, g3⟩ := w1.blk i _ p3 id
    rw [hj2] at hj0; cases hj0
    have z2 := zle_put w1 hj2 (.loop (bf (isNormal r2.ex) .ready .done) (codeOf r2.ex) T3 ps asg body)
    have hS2 := w1.put (o := .loop (bf (isNormal r2.ex) .ready .done) (codeOf r2.ex) T3 ps asg body) (vb := .loop (bf (isNormal r2.ex) .ready .done) (codeOf r2.ex) G3 No ps asg body) p3 hj2 ⟨T3, get_put_self, g2, g3.mono' z2 fun _ _ h => h⟩
    have hex := ((q2.ex.trans (Ex.put q2.sr hj1 (.loop .busy none T2 ps asg body))).trans (p2.ex.trans w3)).trans (Ex.put w1 hj2 (.loop (bf (isNormal r2.ex) .ready .done) (codeOf r2.ex) T3 ps asg body))
    have hjj : ∀ k c, inB st1 k = true → j k = some c → j2 k = some c := fun k c hi hk => w4 k (inB_mem hi) c (p2.stay k (inB_mem hi) c (q2.stay k (inB_mem hi) c hk))
    obtain ⟨T', t1, t2, t3⟩ := vput_ok (d := o.dst) (a := .lit (isNormal r2.ex)) (v := .bool (isNormal r2.ex)) h1 (h3.monoO (hex.zle h2) hjj hs2) hd (.lit _)
    obtain ⟨n3, r, s1, F3, L3, Z3, j3, s2, s3⟩ := p4 T' _ Z2 j2 t2 hS2 t3 (put_low p2.low)
    refine ⟨n1 + n2 + n3, r, fun m hm => ?_, F3, L3, Z3, j3, ⟨s2.n, s2.sr, s2.fr, hex.trans s2.ex, s2.low, Stay.trans (fun k hi c hk => hjj k c (List.all_eq_true.1 hs3 k hi) hk) s2.stay⟩, s3⟩
    have hround : roundL (run E m).code b vs S = some (.bool (isNormal r2.ex), r2.S.put b (.loop (bf (isNormal r2.ex) .ready .done) (codeOf r2.ex) T3 ps asg body)) := by
      unfold roundL
      rw [e1]
      show ob (bindArgs ps vs T0) _ = _
      rw [b1]
      show ob ((run E m).code asg (some b) T1 S) _ = _
      rw [q1 m (by omega)]
      show gd (isNormal r1.ex) (ob (ob (r1.S.heap.get b) loopO) _) = _
      rw [q3, f1]
      show ob ((run E m).code body (some b) r1.T (r1.S.put b (.loop .busy none T2 ps asg body))) _ = _
      rw [p1 m (by omega)]
      show ob (ob (r2.S.heap.get b) loopO) _ = _
      rw [g1]; rfl
    have hstep : stepL E (run E m).call (run E m).code ops o T S = some (T', r2.S.put b (.loop (bf (isNormal r2.ex) .ready .done) (codeOf r2.ex) T3 ps asg body)) := by
      unfold stepL
      rw [vgd_ok hg h3, hop]
      have : evOp E (run E m).call (run E m).code T S (.call c) = some (.bool (isNormal r2.ex), r2.S.put b (.loop (bf (isNormal r2.ex) .ready .done) (codeOf r2.ex) T3 ps asg body)) := by
        show ob (T.evs c.args.toList) _ = _
        rw [k3, hc]
        show ob (T.ev f) _ = _
        rw [k1]
        exact hround
      show ob (evOp E _ _ T S (.call c)) (putS T o.dst) = _
      rw [this]
      show ob (T.put o.dst _) _ = _
      rw [t1]; rfl
    show ob (stepL E _ _ ops o T S) _ = _
    rw [hstep]
    exact s1 m (by omega)
theorem VW.rangeFunc {f : Operand} {ps : Array Tmp} {asg body : Code} {F : VK} {L Lc : VS} {Q : VPost} {g : FuncId} {first cap argsC : List AV} {pn : List (Nat × Nat)} {stc : List Nat} {R : AV → VS → Prop} (hf : av F f = some (.fn g first cap)) (hp : psOk pn = true)
    (hsel : selS pn ((nx L, .loop .ready none F N ps.toList asg body) :: L) pn = some Lc) (hstc : (pn.all fun p => stc.any fun k => Nat.beq k p.1) = true) (hon : AV.onlys (olds pn) (first ++ ([.yld (nx L)] ++ cap)) = true) (hren : AV.rens (rnk pn) (first ++ ([.yld (nx L)] ++ cap)) = argsC) (hC : VC E stc g argsC Lc R)
    (h : ∀ a L', R a L' → ∃ st0 pd G2 e N2 ps2 asg2 body2, bk (backS (backN pn (nx ((nx L, .loop .ready none F N ps.toList asg body) :: L))) L' ++ takeS pn ((nx L, .loop .ready none F N ps.toList asg body) :: L)) (nx L) = some (.loop st0 pd G2 N2 ps2 asg2 body2) ∧ isBusy st0 = false ∧ exitOf pd = some e ∧
      Q e F (up (backS (backN pn (nx ((nx L, .loop .ready none F N ps.toList asg body) :: L))) L' ++ takeS pn ((nx L, .loop .ready none F N ps.toList asg body) :: L)) (nx L) (.loop .exhausted pd G2 N2 ps2 asg2 body2))) : VW E N st none (.rangeFunc f ps asg body) F L Q := by
  intro T S Z j h1 h2 h3 h4
  obtain ⟨v, k1, k2⟩ := h3.ev hf
  cases k2 with
  | fn q1 q2 =>
    rename_i fa ca
    have hS1 := h2.new (o := .loop .ready none T ps.toList asg body) (vb := .loop .ready none F N ps.toList asg body) ⟨T, by rw [get_new, if_pos rfl], h1, h3.mono' (zle_new h2 _) (h2.ext_le _)⟩
    have hself : ext j (nx L) S.size (nx L) = some S.size := nm_self _ _ _
    have hvs : VRs E (S.new (.loop .ready none T ps.toList asg body)) Z (ext j (nx L) S.size) (first ++ ([.yld (nx L)] ++ cap)) (fa.toList ++ ([.func (.yield S.size) #[] #[]] ++ ca.toList)) :=
      (q1.mono' (zle_new h2 _) (h2.ext_le _)).append ((VRs.cons (.yld hself) .nil).append (q2.mono' (zle_new h2 _) (h2.ext_le _)))
    have hvc := hvs.ren (r := rnk pn) (ZLe.refl _ Z) (jsel_ren hp) hon
    rw [hren] at hvc
    obtain ⟨n, u, S', h5, a, L', Z', j', h6, h7, h8, h9, h10, h11⟩ := hC _ Z (jsel pn (ext j (nx L) S.size)) _ (hS1.sel hp hsel) hvc (Nat.le_succ_of_le h4)
    obtain ⟨jn, m1, m2, m3, m4⟩ := call_after hS1 hp hsel hstc h6 h8 h10
    obtain ⟨st0, pd, G2, e, N2, ps2, asg2, body2, g1, g2, g3, g4⟩ := h a L' h11
    have hj := m3 _ _ hself
    obtain ⟨b0, hj0, T2, f1, f2, f3⟩ := m1.blk _ _ g1 id
    rw [hj] at hj0; cases hj0
    have z2 := zle_put m1 hj (.loop .exhausted pd T2 ps2 asg2 body2)
    have hS2 := m1.put (o := .loop .exhausted pd T2 ps2 asg2 body2) (vb := .loop .exhausted pd G2 N2 ps2 asg2 body2) g1 hj ⟨T2, get_put_self, f2, f3.mono' z2 fun _ _ h => h⟩
    have hex := ((Ex.new h2 (.loop .ready none T ps.toList asg body)).trans m2).trans (Ex.put m1 hj (.loop .exhausted pd T2 ps2 asg2 body2))
    have hjj : ∀ k c, j k = some c → jn k = some c := fun k c hk => m3 k c (h2.ext_le _ k c hk)
    refine ⟨n + 1, ⟨e, T, S'.put S.size (.loop .exhausted pd T2 ps2 asg2 body2)⟩, fun m hm => ?_, F, _, Z', jn, ⟨h1, hS2, h3.mono' (hex.zle h2) hjj, hex, put_low h9, fun k _ c hk => hjj k c hk⟩, g4⟩
    obtain ⟨k, rfl, hk⟩ := le_succ_ex hm
    show evRange (run E k).call f ps.toList asg body none T S = _
    unfold evRange
    show ob (ob (T.ev f) funcOf) _ = _
    rw [k1]
    show ob ((run E k).call g (fa.toList ++ ([.func (.yield S.size) #[] #[]] ++ ca.toList)) (S.new (.loop .ready none T ps.toList asg body))) _ = _
    rw [h5 k (by omega)]
    show ob (ob (S'.heap.get S.size) loopO) _ = _
    rw [f1]
    show gd (!isBusy st0) (ob (exitOf pd) _) = _
    rw [g2, g3]; rfl
/-- As VC.of, the memory as it is. -/
def Ends0 (tb : Tab) (rs : List ResultVar) (R : AV → VS → Prop) : VPost := fun e F L => notExit e = true ∧ ∃ l, vres tb F L rs = some l ∧ R (oneA l) L
theorem VC.of0 {f : FuncId} {fn : Func} {c : Code} {args : List AV} {L : VS} {R : AV → VS → Prop} (hT : TabOK E tb = true) (hh : Option.rec true (fun h => !Nat.beq f h) E.hook = true) (hf : E.fns.get f = some fn) (hc : fn.body = some c) (ha : Nat.ble args.length fn.ntmps = true)
    (h : VSt.H E fn.ntmps st none (Ends0 tb fn.results.toList R) (.code c [] (argK args 0) L)) : VC E st f args L R := by
  intro S Z j vs hS hv hl
  have hhk : hookL E f vs = false := by
    unfold hookL
    cases hk : E.hook with
    | none => rfl
    | some k =>
      rw [hk] at hh
      show (Nat.beq f k && vs.isEmpty) = false
      have : Nat.beq f k = false := by simpa using hh
      rw [this]; rfl
  obtain ⟨n, r, h1, F', L', Z', j', h2, h3, l, h4, h6⟩ := h ⟨fn.ntmps, setAll vs 0 .nil⟩ S Z j rfl hS (argK_frr _ _ _ _ _ hv) hl
  obtain ⟨us, h7, h8⟩ := vres_ok hT h2.sr h2.fr h4
  refine ⟨n + 1, oneL us, r.S, fun m hm => ?_, oneA l, L', Z', j', h2.sr, oneA_ok h8, h2.ex, h2.low, h2.stay, h6⟩
  obtain ⟨k, rfl, hk⟩ := le_succ_ex hm
  show bf (hookL E f vs) _ (ob (E.fns.get f) _) = _
  rw [hhk]
  show ob (E.fns.get f) _ = _
  rw [hf]
  show ob fn.body _ = _
  rw [hc]
  show gd (Nat.ble vs.length fn.ntmps) (ob (evCode E (run E k).call (run E k).code c none _ S) (leaveL E fn)) = _
  rw [← hv.length, ha]
  show ob ((run E (k + 1)).code c none _ S) (leaveL E fn) = _
  rw [h1 _ (by omega)]
  show gd (!isExit r.ex) (ob (resultsL E r.T r.S fn.results.toList) _) = _
  have : (!isExit r.ex) = true := by
    cases hx : r.ex with
    | exit id => rw [hx] at h3; cases h3
    | normal => rfl
    | ret => rfl
  rw [this, h7]
  rfl
theorem subK {F F0 : VK} (h : ∀ p ∈ F0, ak F p.1 = some p.2) : ∀ t a, ak F0 t = some a → ak F t = some a := fun t a ha => h _ (ak_mem ha)
theorem sk_nil {F : VK} : ∀ p ∈ ([] : VK), ak F p.1 = some p.2 := fun p h => by cases h
theorem sk_cons {F F0 : VK} {t : Nat} {a : AV} (h : ak F t = some a) (hl : ∀ p ∈ F0, ak F p.1 = some p.2) : ∀ p ∈ (t, a) :: F0, ak F p.1 = some p.2 := fun p hp => by
  rcases List.mem_cons.1 hp with rfl | hp
  · exact h
  · exact hl p hp
variable {Q : VPost}
theorem VSt.yield {ops : Array Oper} {o : Oper} {rest : List Oper} {K : List KI} {F : VK} {L : VS} {c : Call} {f : Operand} {i No : Nat} {as : List AV} {G G1 : VK} {ps : List Tmp} {asg body : Code} (st1 : List Nat) (hg : vgl ops F o.guard = some true) (hd : dstOk o.dst N = true)
    (hop : o.op = .call c) (hc : c.callee = .value f) (hf : av F f = some (.yld i)) (ha : avs F c.args.toList = some as) (hb : bk L i = some (.loop .ready none G No ps asg body)) (hk : bindK No ps as G = some G1) (hs1 : inB st1 i = true) (hs2 : onlyF (inB st1) F = true) (hs3 : (st.all (inB st1)) = true)
    (h : ∀ rd1, VSt.H E No st1 rd1 (fun e F1 L1 => e = .normal ∧ ∃ G2, bk L1 i = some (.loop .ready none G2 No ps asg body) ∧ VSt.H E No st1 rd1 (fun e F2 L2 =>
      ∃ F0 L0 pd G3, Vw E st1 F2 L2 F0 L0 ∧ bk L0 i = some (.loop .busy pd G3 No ps asg body) ∧ VSt.H E N st rd Q (.ops ops rest K (vbind o.dst (.lit (isNormal e)) F) (up L0 i (.loop (bf (isNormal e) .ready .done) (codeOf e) G3 No ps asg body)))) (.code body [] F1 (up L1 i (.loop .busy none G2 No ps asg body)))) (.code asg [] G1 L)) : VSt.H E N st rd Q (.ops ops (o :: rest) K F L) :=
  VO.yield (vgl_ok hg) hd hop hc hf ha hb hk st1 hs1 hs2 hs3 fun rd1 => VW.mono (h rd1) fun e F1 L1 hq => ⟨hq.1, hq.2.elim fun G2 h2 => ⟨G2, h2.1, VW.mono h2.2 fun e F2 L2 hq => hq⟩⟩
theorem VSt.rangeFunc {f : Operand} {ps : Array Tmp} {asg body : Code} {K : List KI} {F : VK} {L Lc : VS} {g : FuncId} {first cap argsC : List AV} (pn : List (Nat × Nat)) {stc : List Nat} {R : AV → VS → Prop} (hf : av F f = some (.fn g first cap)) (hp : psOk pn = true)
    (hsel : selS pn ((nx L, .loop .ready none F N ps.toList asg body) :: L) pn = some Lc) (hstc : (pn.all fun p => stc.any fun k => Nat.beq k p.1) = true) (hon : AV.onlys (olds pn) (first ++ ([.yld (nx L)] ++ cap)) = true) (hren : AV.rens (rnk pn) (first ++ ([.yld (nx L)] ++ cap)) = argsC) (hC : VC E stc g argsC Lc R)
    (h : ∀ a L', R a L' → ∃ st0 pd G2 e N2 ps2 asg2 body2, bk (backS (backN pn (nx ((nx L, .loop .ready none F N ps.toList asg body) :: L))) L' ++ takeS pn ((nx L, .loop .ready none F N ps.toList asg body) :: L)) (nx L) = some (.loop st0 pd G2 N2 ps2 asg2 body2) ∧ isBusy st0 = false ∧ exitOf pd = some e ∧
      VSt.H E N st none Q (.ex e K F (up (backS (backN pn (nx ((nx L, .loop .ready none F N ps.toList asg body) :: L))) L' ++ takeS pn ((nx L, .loop .ready none F N ps.toList asg body) :: L)) (nx L) (.loop .exhausted pd G2 N2 ps2 asg2 body2)))) : VSt.H E N st none Q (.code (.rangeFunc f ps asg body) K F L) :=
  VW.rangeFunc hf hp hsel hstc hon hren hC h
end
theorem BImp.cells {cs ds : List AV} {t : TypeId} (h : AImps cs ds) : BImp (.cells cs t) (.cells ds t) := ⟨fun E S Z j c hb => by
  obtain ⟨vs, h1, h2, h3⟩ := hb
  exact ⟨vs, h1, h2, h.vrs h3⟩, id⟩
/-- A slice that grows by append: its value, its block. -/
def accA (b sz : Nat) : Nat → AV
  | 0 => .p (.lst 0 true 0 fun _ => [])
  | n + 1 => .sl b sz 0 (n + 1) (n + 1) 0
def accS (b sz : Nat) (t : TypeId) (f : Nat → List PV) : Nat → VS
  | 0 => []
  | n + 1 => [(b, .arr (n + 1) sz f t)]
end
end Go.Proofs.YtncpeobcgmkkbaaGreat
/- Walks over values: calls that only look at what is one's own. -/
namespace Go.Proofs.YtncpeobcgmkkbaaGreat
noncomputable section
mutual
/-- Values that lead to no memory at all. -/
def AV.plain : AV → Bool
  | .p (.int _ _) => true
  | .p (.bool _) => true
  | .p (.str _) => true
  | .tup vs => AV.plains vs
  | .agg vs => AV.plains vs
  | _ => false
def AV.plains : List AV → Bool
  | [] => true
  | a :: l => a.plain && AV.plains l
end
section
variable {E : Env}
mutual
theorem VR.plain {S S' : St} {Z Z' : Nat → Prop} {j j' : Nm} : ∀ {a : AV} {v : Value}, VR E S Z j a v → a.plain = true → VR E S' Z' j' a v
  | _, _, .p h, ho => by
    cases h with
    | int k n => exact .p (.int k n)
    | bool b => exact .p (.bool b)
    | str s => exact .p (.str s)
    | _ => simp [AV.plain] at ho
  | _, _, .agg hs h, ho => .agg hs (h.plains (by simpa [AV.plain] using ho))
  | _, _, .tup h, ho => .tup (h.plains (by simpa [AV.plain] using ho))
  | _, _, .ref _, ho => by simp [AV.plain] at ho
  | _, _, .el _, ho => by simp [AV.plain] at ho
  | _, _, .sl _, ho => by simp [AV.plain] at ho
  | _, _, .fn _ _, ho => by simp [AV.plain] at ho
  | _, _, .map _, ho => by simp [AV.plain] at ho
  | _, _, .yld _, ho => by simp [AV.plain] at ho
  | _, _, .accN, ho => by simp [AV.plain] at ho
  | _, _, .accE _ _ _, ho => by simp [AV.plain] at ho
  | _, _, .accC _, ho => by simp [AV.plain] at ho
  | _, _, .lit _, ho => by simp [AV.plain] at ho
  | _, _, .junk _, ho => by simp [AV.plain] at ho
theorem VRs.plains {S S' : St} {Z Z' : Nat → Prop} {j j' : Nm} : ∀ {a : List AV} {v : List Value}, VRs E S Z j a v → AV.plains a = true → VRs E S' Z' j' a v
  | _, _, .nil, _ => .nil
  | _, _, .cons h hl, ho => by
    simp only [AV.plains, Bool.and_eq_true] at ho
    exact .cons (h.plain ho.1) (hl.plains ho.2)
end
/-- The state behind a call that got nothing of ours to write. -/
theorem SR.after {S S' : St} {Z Z2 : Nat → Prop} {j j1 j2 : Nm} {L : VS} {Z1 : Nat → Prop} (h : SR E S Z j L) (hex : Ex S Z1 j1 S' Z2 j2) (hn : ∀ k, j1 k = none) : SR E S' Z j L ∧ ZLe E S Z S' Z ∧ Ex S Z j S' Z j := by
  have hold : ∀ b, b < S.size → S'.heap.get b = S.heap.get b := fun b hb => hex.old b hb fun k hk => by rw [hn] at hk; cases hk
  have hz : ZLe E S Z S' Z := fun b hb => ⟨hb, by unfold rdc St.cells; rw [hold b (h.zlt b hb)]⟩
  refine ⟨⟨fun b hb => Nat.lt_of_lt_of_le (h.zlt b hb) hex.size, fun i b hb => ⟨Nat.lt_of_lt_of_le (h.jlt i b hb).1 hex.size, (h.jlt i b hb).2⟩, h.inj, h.dom, fun i vb hi => ?_, fun b c hb => ⟨Nat.lt_of_lt_of_le (h.rom b c hb).1 hex.size, (h.rom b c hb).2⟩⟩, hz, ⟨hex.size, fun b hb _ => hold b hb, fun b hb => hb, fun b hb => .inl hb, fun i b hi => .inr ⟨i, hi⟩, hex.low.1, fun m h1 h2 h3 => hex.low.2 m h1 h2 fun k b hk => by rw [hn] at hk; cases hk⟩⟩
  rcases h.blk' i vb hi with hv | ⟨b, h1, h2⟩
  · exact .inl hv
  · exact .inr ⟨b, h1, h2.mono (hold b (h.jlt i b h1).1) hz (fun _ _ h => h)⟩
variable {N : Nat} {st : List Nat} {rd : Option Nat} {Q : VPost}
theorem op_bcall {ops : Array Oper} {o : Oper} {F F0 : VK} {L L0 : VS} {c : Call} {f : Operand} {g : FuncId} {first cap args : List AV} {r : AV} (hw : Vw E [] F L F0 L0) (hP : VP E g (first ++ (args ++ cap)) r) (hr : r.plain = true) (hg : vgd ops F o.guard = some true) (hd : dstOk o.dst N = true)
    (hop : o.op = .call c) (hc : c.callee = .value f) (hf : av F0 f = some (.fn g first cap)) (ha : avs F0 c.args.toList = some args) (hon : AV.onlys (olds []) (first ++ (args ++ cap)) = true)
    {T : Fr} {S : St} {Z : Nat → Prop} {j : Nm} (h1 : T.n = N) (h2 : SR E S Z j L) (h3 : FRR E S Z j F T) (h4 : S.low ≤ S.size) :
    ∃ n T' S', (∀ m, n ≤ m → stepL E (run E m).call (run E m).code ops o T S = some (T', S')) ∧ T'.n = N ∧ SR E S' Z j L ∧ FRR E S' Z j (vbind o.dst r F) T' ∧ Ex S Z j S' Z j ∧ S'.low ≤ S'.size ∧ (S.low ≤ S.size → S'.low = S.low) := by
  obtain ⟨Z1, j1, w1, w2, w3, _⟩ := hw T S Z j h2 h3
  obtain ⟨v, k1, k2⟩ := w2.ev hf
  obtain ⟨vs, k3, k4⟩ := w2.evs ha
  cases k2 with
  | fn q1 q2 =>
    rename_i fa ca
    have hvs : VRs E S Z1 j1 (first ++ (args ++ cap)) (fa.toList ++ (vs ++ ca.toList)) := q1.append (k4.append q2)
    have hvc := hvs.ren (r := rnk []) (ZLe.refl S Z1) (jsel_ren (ps := []) rfl) hon
    rw [rens_id _ hon] at hvc
    obtain ⟨n, u, S', h5, a, L', Z2, j2, h6, h7, h8, h9, h10, rfl, _⟩ := hP.2 S Z1 (jsel [] j1) _ (w1.sel (ps := []) rfl rfl) hvc h4
    obtain ⟨a1, a2, a3⟩ := h2.after h8 (fun k => rfl)
    obtain ⟨T', t1, t2, t3⟩ := vput_ok h1 (h3.mono' a2 fun _ _ h => h) hd (h7.plain hr)
    refine ⟨n, T', S', fun m hm => ?_, t2, a1, t3, a3, h9, fun hl => Nat.le_antisymm h8.low.1 (h8.low.2 S.low (Nat.le_refl _) hl fun k b hk => by cases hk)⟩
    unfold stepL
    rw [vgd_ok hg h3, hop]
    have : evOp E (run E m).call (run E m).code T S (.call c) = some (u, S') := by
      show ob (T.evs c.args.toList) _ = _
      rw [k3, hc]
      show ob (T.ev f) _ = _
      rw [k1]
      exact h5 m hm
    show ob (evOp E _ _ T S (.call c)) (putS T o.dst) = _
    rw [this]
    show ob (T.put o.dst u) _ = _
    rw [t1]; rfl
/-- A call that looks at what is one's own as if it were frozen. -/
theorem VSt.bcall {ops : Array Oper} {o : Oper} {rest : List Oper} {K : List KI} {F F0 : VK} {L L0 : VS} {c : Call} {f : Operand} {g : FuncId} {first cap args : List AV} {r : AV} (hw : Vw E [] F L F0 L0) (hg : vgl ops F o.guard = some true) (hd : dstOk o.dst N = true)
    (hop : o.op = .call c) (hc : c.callee = .value f) (hf : av F0 f = some (.fn g first cap)) (ha : avs F0 c.args.toList = some args) (hon : AV.onlys (olds []) (first ++ (args ++ cap)) = true) (hP : VP E g (first ++ (args ++ cap)) r) (hr : r.plain = true)
    (h : VSt.H E N st rd Q (.ops ops rest K (vbind o.dst r F) L)) : VSt.H E N st rd Q (.ops ops (o :: rest) K F L) := by
  intro T S Z j h1 h2 h3 h4
  obtain ⟨n, T', S', k1, k3, k4, k5, k6, k7, _⟩ := op_bcall hw hP hr (vgl_ok hg) hd hop hc hf ha hon h1 h2 h3 h4
  obtain ⟨n2, r, q1, F2, L2, Z2, j2, q2, q3⟩ := h T' S' Z j k3 k4 k5 k7
  refine ⟨n + n2, r, fun m hm => ?_, F2, L2, Z2, j2, ⟨q2.n, q2.sr, q2.fr, k6.trans q2.ex, q2.low, q2.stay⟩, q3⟩
  show ob (stepL E _ _ ops o T S) _ = _
  rw [k1 m (by omega)]
  exact q1 m (by omega)
theorem VSt.bcallD {ops : Array Oper} {bs : List Nat} {ks : List (Nat × Option Nat)} {i : Nat} {o : Oper} {rest : List Oper} {K : List KI} {F F0 : VK} {L L0 : VS} {c : Call} {f : Operand} {g : FuncId} {first cap args : List AV} {r : AV} (hw : Vw E [] F L F0 L0) (hg : vgl ops F o.guard = some true) (hd : dstOk o.dst N = true)
    (hop : o.op = .call c) (hc : c.callee = .value f) (hf : av F0 f = some (.fn g first cap)) (ha : avs F0 c.args.toList = some args) (hon : AV.onlys (olds []) (first ++ (args ++ cap)) = true) (hP : VP E g (first ++ (args ++ cap)) r) (hr : r.plain = true)
    (h : VSt.H E N st rd Q (.dops ops bs ks rest (i + 1) K (vbind o.dst r F) L)) : VSt.H E N st rd Q (.dops ops bs ks (o :: rest) i K F L) := by
  intro T S Z j D r0 h1 h2 h3 h4 hD hi hks
  obtain ⟨hi1, hi2⟩ := ops_at hi
  obtain ⟨n, T', S', k1, k3, k4, k5, k6, k7, k9⟩ := op_bcall hw hP hr (vgl_ok hg) hd hop hc hf ha hon h1 h2.at0 h3.at0 (Nat.le_refl _)
  have hdr : S.size ≤ S'.low ∨ uni bs i = true := .inl (by rw [k9 (Nat.le_refl _)]; exact Nat.le_refl _)
  obtain ⟨n2, r, q1, F2, L2, Z2, j2, q2, q3⟩ := h T' (S.back S') Z j _ r0 k3 k4.back k5.back (back_low k7) (dinv_next (T := T) (size := S.size) hi1 hD) hi2 (hks.step rfl k6.size fun _ _ h => h)
  refine ⟨n + n2, r, fun m hm => ?_, F2, L2, Z2, j2, ⟨q2.n, q2.sr, q2.fr, k6.back.trans q2.ex, q2.low, q2.stay⟩, q3⟩
  show ob (stepL E _ _ ops o T S.at0) _ = _
  rw [k1 m (by omega)]
  show ob (drawOk bs i T S.size S'.low o.op D) _ = _
  rw [drawn_ok hi1 hD hdr]
  exact q1 m (by omega)
end
end
end Go.Proofs.YtncpeobcgmkkbaaGreat
/- Walks over values: calls that take memory of the caller's own. -/
namespace Go.Proofs.YtncpeobcgmkkbaaGreat
noncomputable section
section
variable {E : Env} {N : Nat} {st : List Nat} {rd : Option Nat} {Q : VPost}
/-- A call with memory (ps: callee's and caller's names), the contract last. -/
theorem VSt.cc {ops : Array Oper} {o : Oper} {rest : List Oper} {K : List KI} {F : VK} {L : VS} {c : Call} {f : Operand} {g : FuncId} {first cap args argsC : List AV} {Lc : VS} (ps : List (Nat × Nat)) {stc : List Nat} {R : AV → VS → Prop} (hg : vgl ops F o.guard = some true) (hd : dstOk o.dst N = true)
    (hop : o.op = .call c) (hc : c.callee = .value f) (hf : av F f = some (.fn g first cap)) (ha : avs F c.args.toList = some args) (hp : psOk ps = true) (hsel : selS ps L ps = some Lc) (hstc : (ps.all fun p => stc.any fun k => Nat.beq k p.1) = true)
    (hon : AV.onlys (olds ps) (first ++ (args ++ cap)) = true) (hren : AV.rens (rnk ps) (first ++ (args ++ cap)) = argsC) (hC : VC E stc g argsC Lc R)
    (h : ∀ a L', R a L' → VSt.H E N st rd Q (.ops ops rest K (vbind o.dst (a.ren (backN ps (nx L))) F) (backS (backN ps (nx L)) L' ++ takeS ps L))) : VSt.H E N st rd Q (.ops ops (o :: rest) K F L) :=
  VO.call (vgl_ok hg) hd hop hc hf ha hp hsel hstc hon hren hC h
theorem VSt.ccD {ops : Array Oper} {bs : List Nat} {ks : List (Nat × Option Nat)} {i : Nat} {o : Oper} {rest : List Oper} {K : List KI} {F : VK} {L : VS} {c : Call} {f : Operand} {g : FuncId} {first cap args argsC : List AV} {Lc : VS} (ps : List (Nat × Nat)) {stc : List Nat} {R : AV → VS → Prop} (hg : vgl ops F o.guard = some true) (hd : dstOk o.dst N = true)
    (hop : o.op = .call c) (hc : c.callee = .value f) (hf : av F f = some (.fn g first cap)) (ha : avs F c.args.toList = some args) (hp : psOk ps = true) (hsel : selS ps L ps = some Lc) (hstc : (ps.all fun p => stc.any fun k => Nat.beq k p.1) = true)
    (hon : AV.onlys (olds ps) (first ++ (args ++ cap)) = true) (hren : AV.rens (rnk ps) (first ++ (args ++ cap)) = argsC) (hw : (ps.isEmpty || uni bs i) = true) (hC : VC E stc g argsC Lc R)
    (h : ∀ a L', R a L' → VSt.H E N st rd Q (.dops ops bs ks rest (i + 1) K (vbind o.dst (a.ren (backN ps (nx L))) F) (backS (backN ps (nx L)) L' ++ takeS ps L))) : VSt.H E N st rd Q (.dops ops bs ks (o :: rest) i K F L) :=
  VD0.call (vgl_ok hg) hd hop hc hf ha hp hsel hstc hon hren hC hw h
end
end
end Go.Proofs.YtncpeobcgmkkbaaGreat
/- What arguments look like, read field by field. -/
namespace Go.Proofs.YtncpeobcgmkkbaaGreat
noncomputable section
/-- Seen alike, deep down. -/
def PImp (p q : PV) : Prop := ∀ E S Z v, PR E S Z p v → PR E S Z q v
theorem PImp.refl (p : PV) : PImp p p := fun _ _ _ _ h => h
def PImps : List PV → List PV → Prop
  | [], [] => True
  | a :: l, b :: m => PImp a b ∧ PImps l m
  | _, _ => False
theorem PImps.prs {E : Env} {S : St} {Z : Nat → Prop} : ∀ {l m : List PV} {vs : List Value}, PImps l m → PRs E S Z l vs → PRs E S Z m vs
  | [], [], _, _, h => h
  | _ :: _, _ :: _, _, h, .cons hv hl => .cons (h.1 _ _ _ _ hv) (h.2.prs hl)
theorem PImp.lst {ty n : Nat} {nb : Bool} {f g : Nat → List PV} (h : ∀ k, k < n → PImps (f k) (g k)) : PImp (.lst ty nb n f) (.lst ty nb n g) := fun E S Z v hv => by
  cases hv with
  | nil => exact .nil _ _
  | lst gg hz hc hcap hoff hty hcut hh => exact .lst gg hz hc hcap hoff hty hcut (fun k hk => (h k hk).prs (hh k hk))
theorem PImp.toA {p q : PV} (h : PImp p q) : AImp (.p p) (.p q) := fun E S Z j v hv => by
  cases hv with
  | p hv => exact .p (h _ _ _ _ hv)
theorem PImps.toA : ∀ {l m : List PV}, PImps l m → AImps (l.map .p) (m.map .p)
  | [], [], _ => trivial
  | _ :: _, _ :: _, h => ⟨h.1.toA, h.2.toA⟩
theorem AImp.aggP {l m : List PV} (h : PImps l m) : AImp (.agg (l.map .p)) (.agg (m.map .p)) := fun E S Z j v hv => by
  cases hv with
  | agg hs hv => exact .agg hs (h.toA.vrs hv)
/-- Fields: type and place. -/
def fldsOf : TypeDesc → Option (List (Nat × Nat))
  | .struct fs => some (fs.toList.map fun f => (f.type, f.offset))
  | _ => none
def szT (E : Env) (t : Nat) : Option Nat := (E.ti.get t).map (·.size)
section
variable {E : Env} {n t : Nat} {qs : List PV}
theorem Sh.int {k : IntKind} (hi : (E.ti.get t).map (·.desc) = some (.int k)) (h : Sh E (n + 1) t qs) : ∃ x, qs = [.int k x] ∧ k.min ≤ x ∧ x ≤ k.max := by
  unfold Sh at h
  cases hg : E.ti.get t with
  | none => rw [hg] at hi; cases hi
  | some i =>
    rw [hg] at hi h
    have hi : i.desc = .int k := Option.some.inj hi
    simp only [hi] at h
    exact h
theorem Sh.bool (hi : (E.ti.get t).map (·.desc) = some .bool) (h : Sh E (n + 1) t qs) : ∃ b, qs = [.bool b] := by
  unfold Sh at h
  cases hg : E.ti.get t with
  | none => rw [hg] at hi; cases hi
  | some i =>
    rw [hg] at hi h
    have hi : i.desc = .bool := Option.some.inj hi
    simp only [hi] at h
    exact h
theorem Sh.string (hi : (E.ti.get t).map (·.desc) = some .string) (h : Sh E (n + 1) t qs) : ∃ s : ByteArray, qs = [.str s] ∧ s.size ≤ maxLen := by
  unfold Sh at h
  cases hg : E.ti.get t with
  | none => rw [hg] at hi; cases hi
  | some i =>
    rw [hg] at hi h
    have hi : i.desc = .string := Option.some.inj hi
    simp only [hi] at h
    exact h
theorem Sh.slice {e : TypeId} (hi : (E.ti.get t).map (·.desc) = some (.slice e)) (h : Sh E (n + 1) t qs) : ∃ nb m f, qs = [.lst e nb m f] ∧ (nb = true → m = 0) ∧ m < 9223372036854775808 ∧ ∀ k, k < m → Sh E n e (f k) := by
  unfold Sh at h
  cases hg : E.ti.get t with
  | none => rw [hg] at hi; cases hi
  | some i =>
    rw [hg] at hi h
    have hi : i.desc = .slice e := Option.some.inj hi
    simp only [hi] at h
    obtain ⟨nb, m, f, h1, h2, h3, h4⟩ := h
    exact ⟨nb, m, f, h1, h2, Nat.lt_of_le_of_lt h3 (by decide), h4⟩
theorem Sh.struct {sz : Nat} {l : List (Nat × Nat)} (hi : (E.ti.get t).map (fun i => (i.size, fldsOf i.desc)) = some (sz, some l)) (h : Sh E (n + 1) t qs) : qs.length = sz ∧ ∀ p ∈ l, ∀ s, szT E p.1 = some s → Sh E n p.1 ((qs.drop p.2).take s) := by
  unfold Sh at h
  cases hg : E.ti.get t with
  | none => rw [hg] at hi; cases hi
  | some i =>
    rw [hg] at hi h
    have hi : (i.size, fldsOf i.desc) = (sz, some l) := Option.some.inj hi
    simp only [Prod.mk.injEq] at hi
    obtain ⟨h1, h2⟩ := hi
    cases hd : i.desc with
    | struct fs =>
      rw [hd] at h2
      simp only [hd] at h
      have h2 : fs.toList.map (fun f => (f.type, f.offset)) = l := Option.some.inj h2
      subst h2
      refine ⟨h.1.trans h1, fun p hp s hs => ?_⟩
      obtain ⟨f, hf, rfl⟩ := List.mem_map.1 hp
      obtain ⟨g, h3, h4⟩ := h.2 f hf
      unfold szT at hs
      rw [h3] at hs
      have : g.size = s := Option.some.inj hs
      subst this
      exact h4
    | _ => rw [hd] at h2; cases h2
end
theorem list_of {α : Type} (d : α) : ∀ {m : Nat} {P : Nat → α → Prop}, (∀ k, k < m → ∃ x, P k x) → ∃ l : List α, l.length = m ∧ ∀ k, k < m → P k (l.getD k d)
  | 0, _, _ => ⟨[], rfl, fun k hk => absurd hk (Nat.not_lt_zero k)⟩
  | m + 1, P, h => by
    obtain ⟨l, h1, h2⟩ := list_of d (m := m) (P := P) (fun k hk => h k (by omega))
    obtain ⟨x, hx⟩ := h m (by omega)
    refine ⟨l ++ [x], by simp [h1], fun k hk => ?_⟩
    rw [List.getD_eq_getElem?_getD]
    by_cases e : k < m
    · rw [List.getElem?_append_left (by omega), ← List.getD_eq_getElem?_getD]; exact h2 k e
    · have : k = m := by omega
      subst this
      subst h1
      simpa using hx
end
end Go.Proofs.YtncpeobcgmkkbaaGreat
