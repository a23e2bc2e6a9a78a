/- The program's LeafNth returns true for all numbers that describe a book and all lists of Ids, without an exception and without changing its arguments: a part of the proof. -/
import Derived.Test.YtdpipdniklognaaGreatVb
import Derived.IntWalk
set_option linter.all false
/- A run without arguments, cut at its statements: each one is run by the kernel out of a small memory that is written down. -/
set_option maxRecDepth 100000
namespace Go.Proofs.YtdpipdniklognaaGreat
section
section
variable {α : Type}
noncomputable def ofL:List (Nat×α)→Tr α
 | []=>.nil
 | p::l=>(ofL l).set p.1 p.2
theorem zdp {n:Nat} {v : α}:∀ {l:List (Nat×α)},(ofL l).get n=some v→(n,v)∈l
 | [],h=>by rw [ofL,Tr.get_nil] at h;cases h
 | p::l,h=>by
  rw [ofL,Tr.get_set] at h
  split at h
  ·rename_i e;cases h;rw [e];simp
  ·exact List.mem_cons_of_mem _ (zdp h)
end
def eqL {α : Type} (f : α → α → Bool):List α → List α → Bool
 | [],[]=>true
 | x::a,y::b=>f x y&&eqL f a b
 | _,_=>false
theorem zcx {α : Type} {f : α → α → Bool} (hf:∀ x y,f x y=true→x=y):∀ {a b:List α},eqL f a b=true→a=b
 | [],[],_=>rfl
 | x::a,y::b,h=>by
  simp only [eqL,yw] at h
  rw [hf _ _ h.1,zcx hf h.2]
 | [],_::_,h=>by cases h
 | _::_,[],h=>by cases h
def eqA:Option Addr→Option Addr→Bool
 | none,none=>true
 | some a,some b=>Nat.beq a.block b.block&&(Nat.beq a.off b.off&&decide (a.spot=b.spot))
 | _,_=>false
theorem zma {a b:Option Addr} (h:eqA a b=true):a=b:=by
 unfold eqA at h
 split at h
 ·rfl
 ·rename_i a b
  simp only [yw,decide_eq_true_eq] at h
  cases a;cases b
  simp only at h
  rw [zm h.1,zm h.2.1,h.2.2]
 ·cases h
def eqV:Nat→Value→Value→Bool
 | 0,_,_=>false
 | n+1,x,y=>match x,y with
  | .bool a,.bool b=>a==b
  | .int k a,.int l b=>decide (k=l)&&decide (a=b)
  | .string a,.string b=>decide (a.data.toList=b.data.toList)
  | .pointer a,.pointer b=>eqA a b
  | .slice a i c,.slice b m d=>eqA a b&&(Nat.beq i m&&Nat.beq c d)
  | .map none,.map none=>true
  | .map (some a),.map (some b)=>Nat.beq a b
  | .nilFunc,.nilFunc=>true
  | .nilIface,.nilIface=>true
  | .agg a,.agg b=>eqL (eqV n) a.toList b.toList
  | .tuple a,.tuple b=>eqL (eqV n) a.toList b.toList
  | _,_=>false
theorem z9W:∀ (n:Nat) (x y:Value),eqV n x y=true→x=y
 | 0,_,_,h=>by cases h
 | n+1,x,y,h=>by
  unfold eqV at h
  split at h
  ·rw [eq_of_beq h]
  ·simp only [yw,decide_eq_true_eq] at h;rw [h.1,h.2]
  ·rename_i a b
   have:a=b:=by
    cases a;cases b
    rw [decide_eq_true_eq] at h
    exact congrArg _ (Array.toList_inj.1 h)
   rw [this]
  ·rw [zma h]
  ·simp only [yw] at h;rw [zma h.1,zm h.2.1,zm h.2.2]
  ·rfl
  ·rw [zm h]
  ·rfl
  ·rfl
  ·rw [Array.toList_inj.1 (zcx (z9W n) h)]
  ·rw [Array.toList_inj.1 (zcx (z9W n) h)]
  ·cases h
def eqO:Yg→Yg→Bool
 | .cells c e,.cells d f=>eqL (eqV 6) c d&&Nat.beq e f
 | .map c,.map d=>eqL (fun p q=>eqV 6 p.1 q.1&&eqV 6 p.2 q.2) c d
 | _,_=>false
theorem zpF {x y:Yg} (h:eqO x y=true):x=y:=by
 unfold eqO at h
 split at h
 ·simp only [yw] at h
  rw [zcx (z9W 6) h.1,zm h.2]
 ·rw [zcx (fun p q h=>by
   simp only [yw] at h
   exact Prod.ext (z9W 6 _ _ h.1) (z9W 6 _ _ h.2)) h]
 ·cases h
noncomputable section
def frL (n:Nat) (l:List (Nat×Value)):Fr:=⟨n,ofL l⟩
def stL (n:Nat) (l:List (Nat×Yg)):St:=⟨ofL l,n,n⟩
def zrE (l:List (Nat×Value)) (T:Fr):Bool:=l.all fun p=>match T.t.get p.1 with
 | some u=>eqV 6 p.2 u
 | none=>false
def zqY (l:List (Nat×Yg)) (S:St):Bool:=l.all fun p=>match S.heap.get p.1 with
 | some u=>eqO p.2 u
 | none=>false
def zir:LExit→Bool
 | .normal=>true
 | _=>false
def fits (r:Option Res) (m:Nat) (lt:List (Nat×Value)) (k:Nat) (h:List (Nat×Yg)):Bool:=match r with
 | some r=>zir r.ex&&(Nat.beq r.T.n m&&(zrE lt r.T&&(Nat.beq r.S.size k&&zqY h r.S)))
 | none=>false
def z0z (E:Env) (fuel:Nat) (c:Code) (T:Fr) (S:St) (m:Nat) (lt:List (Nat×Value)) (k:Nat) (h:List (Nat×Yg)):Bool :=
 z7P c&&fits ((run E fuel).code c none T S) m lt k h
end
def zlL:Code→List Code
 | .seq a b=>zlL a++zlL b
 | c=>[c]
def wpL (P:Program) (n:Nat) (Q:Exit→Act→World→Prop):List Code→Act→World→Prop
 | [],a,w=>Q .normal a w
 | c::l,a,w=>c.wpIn Fence.wide n P (fun e a' w'=>match e with
  | .normal=>wpL P n Q l a' w'
  | e=>Q e a' w') a w
theorem zmr {P:Program} {n:Nat} {Q:Exit→Act→World→Prop}:∀ (c:Code) (l:List Code) (a:Act) (w:World),wpL P n Q (zlL c++l) a w→c.wpIn Fence.wide n P (fun e a' w'=>match e with
  | .normal=>wpL P n Q l a' w'
  | e=>Q e a' w') a w:=by
 intro c
 induction c with
 | seq x y ihx ihy =>
  intro l a w h
  rw [zlL,List.append_assoc] at h
  refine wpIn_seq (wpIn_mono (ihx _ a w h) ?_)
  intro e a' w' h
  cases e with
  | normal=>exact ihy l a' w' h
  | _=>exact h
 | _=>exact fun l a w h=>h
section
variable {G:Good} {base:Nat}
def At (G:Good) (w0:World) (base:Nat) (T:Fr) (S:St) (a:Act) (w:World):Prop:=∃ j,Sim G j S w∧TRel j T a.tmps∧base≤w.heap.size∧Defs base j w a.defers∧(∀ b x,j b=some x→base≤x.blk)∧SameIo w0 w∧∀ c,c<base→w.heap[c]? = w0.heap[c]?
def Ends (w0:World) (base:Nat) (t:Tmp) (v:Value) (e:Exit) (a:Act) (w:World):Prop:=(e = .ret∨e = .normal)∧∃ j,TRel j ⟨0,Tr.nil.set t v⟩ a.tmps∧Defs base j w a.defers∧SameIo w0 w∧base≤w.heap.size∧∀ c,c<base→w.heap[c]? = w0.heap[c]?
def Runs (G:Good) (t:Tmp) (v:Value) (l:List Code) (T:Fr) (S:St):Prop:=∀ w0 base n a w,At G w0 base T S a w→wpL G.P n (Ends w0 base t v) l a w
theorem zl6 {l:List (Nat×Value)} {T:Fr} (h:zrE l T=true) {j:Inj} {tmps:Array Value} (hT:TRel j T tmps):TRel j (frL T.n l) tmps:=by
 refine ⟨hT.1,fun t v hv=>?_⟩
 have hm:=zdp hv
 have:=List.all_eq_true.1 h _ hm
 split at this
 ·rename_i u hu
  have e:v=u:=z9W _ _ _ this
  rw [e]
  exact hT.2 t u hu
 ·cases this
theorem z7K {l:List (Nat×Yg)} {S:St} (h:zqY l S=true) {b:Nat} {o:Yg} (hb:(ofL l).get b=some o):S.heap.get b=some o:=by
 have:=List.all_eq_true.1 h _ (zdp hb)
 split at this
 ·rename_i u hu
  have e:o=u:=zpF this
  rw [e];exact hu
 ·cases this
theorem zl7 {l:List (Nat×Yg)} {S:St} (h:zqY l S=true) {j:Inj} {w:World} (hs:Sim G j S w):Sim G j (stL S.size l) w:=by
 refine ⟨hs.dom,fun b x o hb ho=>hs.objs b x o hb (z7K h ho),fun b c x y hb hc lb lc e=>?_,hs.rom.world (fun _ _ _=>rfl) (fun d ⟨o,ho,hd⟩=>⟨o,z7K h ho,hd⟩)⟩
 obtain ⟨o,ho,hd⟩:=lb
 obtain ⟨p,hp,hq⟩:=lc
 exact hs.inj b c x y hb hc ⟨o,z7K h ho,hd⟩ ⟨p,z7K h hp,hq⟩ e
theorem Runs.step (hG:Yj G) {t:Tmp} {v:Value} {fuel:Nat} {c:Code} {l:List Code} {T:Fr} {S:St} {m k:Nat} {lt:List (Nat×Value)} {h:List (Nat×Yg)}
  (hp:z0z G.E fuel c T S m lt k h=true) (hn:Runs G t v l (frL m lt) (stL k h)):Runs G t v (c::l) T S:=by
 intro w0 base n a w ⟨j,hs,hT,hb,hD,hrg,hio,hlw⟩
 simp only [z0z,yw] at hp
 obtain ⟨hc,hf⟩:=hp
 unfold fits at hf
 split at hf
 ·rename_i r hr
  simp only [yw] at hf
  obtain ⟨h1,h2,h3,h4,h5⟩:=hf
  obtain ⟨_,h6⟩:=(z8c hG fuel).2.sound c none T S r hr hc n base j a w none trivial hs hT hb hD
  refine wpIn_mono h6 ?_
  rintro e a' w' ⟨he,j',h7,h8,h9,h10⟩
  have hn1:r.ex = .normal:=by
   cases hx:r.ex <;> rw [hx] at h1 <;> first | rfl | cases h1
  rw [hn1] at he
  subst he
  refine hn w0 base n a' w' ⟨j',?_,?_,yn hb h8.heap,h10,?_,hio.trans h8.io,?_⟩
  ·rw [←zm h4];exact zl7 h5 h7
  ·rw [←zm h2];exact zl6 h3 h9
  ·intro b x hbx
   cases hj:j b with
   | some y =>
    have:=h8.sub b y hj
    rw [hbx] at this;cases this
    exact hrg b x hj
   | none =>
    obtain ⟨_,h11⟩:=h8.new b x hbx hj
    rcases h11 with h11 | ⟨c,y,h12,_,_,h13⟩
    ·omega
    ·rw [←h13];exact hrg c y h12
  ·intro c hcb
   rw [h8.fr c (by omega) fun b x hbx _ _ e=>by have:=hrg b x hbx;omega]
   exact hlw c hcb
 ·cases hf
theorem Runs.ret {t:Tmp} {v:Value} {l:List Code} {T:Fr} {S:St} (h:T.t.get t=some v):Runs G t v (.ret::l) T S:=by
 intro w0 base n a w ⟨j,hs,hT,hb,hD,hrg,hio,hlw⟩
 refine wpIn_ret ⟨.inl rfl,j,⟨yu _,fun t' v' hv=>?_⟩,hD,hio,hb,hlw⟩
 rw [Tr.get_set,Tr.get_nil] at hv
 split at hv
 ·rename_i e;cases hv;rw [e];exact hT.2 t v h
 ·cases hv
theorem z7a (hG:Yj G) {F:Fence} {n:Nat} {fn:Func} {j:Inj} {t:Tmp} {v:Bool} {tmps:Array Value} {w0:World} (hr:fn.results.toList=[.tmp t]) (hT:TRel j ⟨0,Tr.nil.set t (.bool v)⟩ tmps) :
  ∀ (ds:List Deferred) (w:World),Defs base j w ds→SameIo w0 w→base≤w.heap.size→(∀ c,c<base→w.heap[c]? = w0.heap[c]?)→LeavesInM F n G.P fn tmps (fun e w'=>e = .returned (.bool v)∧SameIo w0 w'∧base≤w'.heap.size∧∀ c,c<base→w'.heap[c]? = w0.heap[c]?) ds .returning w
 | [],w,_,hio,hb,hl=>by
  obtain ⟨v',h1,h2⟩:=hT.2 t (.bool v) (by rw [Tr.get_set,if_pos rfl])
  have:=h2.bool_inv;subst this
  refine ⟨.bool v,?_,rfl,hio,hb,hl⟩
  unfold results
  rw [Sem.run_bind,Array.mapM_eq_mapM_toList,Sem.run_map,hr]
  simp [List.mapM_cons,Array.getD_eq_getD_getElem?,h1,Result.andThen]
 | d::ds,w,⟨⟨r,h1,h2,h3,h4,h5⟩,hd⟩,hio,hb,hl=>by
  refine ⟨by simp,.inl ⟨r,_,by rw [h1],z9w h3,z7a hG hr hT ds _ ?_ (hio.trans ⟨rfl,rfl,rfl⟩) (by rw [World.putObj_size];exact hb) (fun c hc=>by rw [World.putObj_heap_other (by omega)];exact hl c hc)⟩⟩
  have key:∀ ds,Defs base j w ds→(∀ d'∈ds,d'≠d)→Defs base j (w.putObj r (.deferred none)) ds:=by
   intro ds
   induction ds with
   | nil=>exact fun _ _=>trivial
   | cons d' ds ih =>
    rintro ⟨⟨r',h6,h7,h8,h9,h10⟩,hd'⟩ hne
    refine ⟨⟨r',h6,h7,?_,h9,h10⟩,ih hd' fun d'' hd''=>hne d'' (by simp [hd''])⟩
    have:r'≠r:=fun e=>hne d' (by simp) (by rw [h6,h1,e])
    rw [World.putObj_heap_other this];exact h8
  exact key ds hd h5
theorem zdW (hG:Yj G) (hro:G.E.rom = .nil) {f:FuncId} {fn:Func} {c:Code} {t:Tmp} {v:Bool} (hf:G.P.funcs[f]? = some fn) (hc:fn.body=some c) (hr:fn.results.toList=[.tmp t])
  (h:Runs G t (.bool v) (zlL c) ⟨fn.ntmps,.nil⟩ St.empty) (w:World):Calls G.P f #[] w (fun e w'=>e = .returned (.bool v)∧SameIo w w'∧w.heap.size≤w'.heap.size∧∀ c,c<w.heap.size→w'.heap[c]? = w.heap[c]?):=by
 have h0:At G w w.heap.size ⟨fn.ntmps,.nil⟩ St.empty { tmps:=#[]++Array.replicate (fn.ntmps - (#[]:Array Value).size) undef,defers:=[] } w:=by
  refine ⟨fun _=>none,⟨(fun b x h=>by cases h),(fun b x o h=>by cases h),(fun b c x y h=>by cases h),(fun b c h=>by rw [hro,Tr.get_nil] at h;cases h)⟩,⟨by simp,fun t v hv=>?_⟩,ym _,trivial,(fun b x h=>by cases h),SameIo.refl w,fun _ _=>rfl⟩
  rw [Tr.get_nil] at hv;cases hv
 have h1:=h w w.heap.size 0 _ w h0
 rw [←List.append_nil (zlL c)] at h1
 refine callsIn_wide.1 (callsIn_of_wp_marks (n:=0) hf hc trivial (wpIn_mono (zmr c [] _ w h1) ?_))
 rintro e a' w' h2
 have h3:Ends w w.heap.size t (.bool v) e a' w':=by
  cases e with
  | normal=>exact h2
  | _=>exact h2
 obtain ⟨he,j,h4,h5,h5',h6,h7⟩:=h3
 have hl:=z7a (F:=Fence.wide) (n:=0) hG hr h4 a'.defers w' h5 h5' h6 h7
 rcases he with rfl | rfl <;> exact hl
end
def pick (P:Program):List Nat→List (Nat×Func)
 | []=>[]
 | i::l=>match P.funcs[i]? with
  | some f=>(i,f)::pick P l
  | none=>pick P l
noncomputable def zpG (P:Program) (n:Nat) (ids:List Nat):Env:={ ti:=zq7 P n .nil,fns:=ziW (pick P ids) }
noncomputable def zqX (q : Nat × Func) : Bool := !(q.2.name == "runtime.NumGoroutine") && (match q.2.body with
 | some c=>z7P c
 | none=>true)
theorem zaw {P:Program} {q:Nat×Func}:∀ {l:List Nat},q∈pick P l→P.funcs[q.1]? = some q.2
 | [],h=>by cases h
 | i::l,h=>by
  unfold pick at h
  split at h
  ·rename_i f hf
   rcases List.mem_cons.1 h with rfl | h
   ·exact hf
   ·exact zaw h
  ·exact zaw h
theorem zcp {f:Nat} {fn:Func}:∀ {l:List (Nat×Func)},(ziW l).get f=some fn→(f,fn)∈l
 | [],h=>by rw [ziW,Tr.get_nil] at h;cases h
 | p::l,h=>by
  obtain ⟨i,g⟩:=p
  rw [ziW,Tr.get_set] at h
  split at h
  ·rename_i e;cases h;rw [e];simp
  ·exact List.mem_cons_of_mem _ (zcp h)
theorem zmE {P:Program} {t:TypeId} {x:LTy} (h:zoI P t=some x):TiOK P t x:=by
 unfold zoI at h
 split at h
 ·rename_i i d hi hd
  split at h
  ·rename_i z hz
   obtain ⟨hg,h1⟩:=ze h
   rw [yw] at hg
   cases h1
   exact ⟨⟨i,hi,rfl,rfl,hz⟩,hd,rfl,hg.1,fun h=>h,hg.2⟩
  ·cases h
 ·cases h
theorem zep {P:Program} {t:TypeId} {x:LTy}:∀ (n:Nat) {T:Tr LTy},(∀ x,T.get t=some x→zoI P t=some x)→(zq7 P n T).get t=some x→zoI P t=some x
 | 0,T,hT,h=>hT x h
 | n+1,T,hT,h=>by
  rw [zq7] at h
  refine zep n (T:=_) ?_ h
  intro y hy
  split at hy
  ·rename_i z hz
   rw [Tr.get_set] at hy
   split at hy
   ·rename_i e;cases hy;rw [e];exact hz
   ·exact hT y hy
  ·exact hT y hy
theorem zl4 {P:Program} {n:Nat} {ids:List Nat} (hm:P.follows .mixedOrders=true) (hf:(pick P ids).all zqX=true):Yj ⟨P,zpG P n ids⟩:=by
 refine ⟨hm,fun t x h=>zmE (zep n (fun x h=>by rw [Tr.get_nil] at h;cases h) h),(fun h hk=>by cases hk),(fun h hk=>by cases hk),(fun h t hk=>by cases hk),(fun f args S v h=>absurd (show false=true from h) (by decide)),(fun f args S q h=>absurd (show false=true from h) (by decide)),fun f fn h=>?_⟩
 have h1:=zcp h
 have h2:=List.all_eq_true.1 hf _ h1
 simp only [zqX,yw,Bool.not_eq_true'] at h2
 refine ⟨zaw h1,h2.1,fun c hc=>?_⟩
 rw [hc] at h2
 exact h2.2
noncomputable section
def z0S (l:List Code) (i:Nat):Code:=(l[i]?).getD .skip
def zfs (P:Program) (f:Nat):Code:=match P.funcs[f]? with
 | some fn=>fn.body.getD .skip
 | none=>.skip
def zqU:Code→Bool
 | .ret=>true
 | _=>false
def zpw (t:Tmp):List ResultVar→Bool
 | [.tmp s]=>Nat.beq s t
 | _=>false
def zdX (P:Program) (f:Nat) (t:Tmp) (N:Nat):Bool:=match P.funcs[f]? with
 | some fn=>match fn.body with
  | some _=>zpw t fn.results.toList&&Nat.beq fn.ntmps N
  | none=>false
 | none=>false
end
theorem z9X {l:List Code} {i:Nat} (h:Nat.blt i l.length=true):l.drop i=z0S l i::l.drop (i+1):=by
 have hi:=z0w h
 rw [List.drop_eq_getElem_cons hi,z0S,List.getElem?_eq_getElem hi,Option.getD_some]
theorem Runs.at {G:Good} {t:Tmp} {v:Value} (hG:Yj G) {fuel i:Nat} {l:List Code} {T:Fr} {S:St} {m k:Nat} {lt:List (Nat×Value)} {h:List (Nat×Yg)} (hi:Nat.blt i l.length=true)
  (hp:z0z G.E fuel (z0S l i) T S m lt k h=true) (hn:Runs G t v (l.drop (i+1)) (frL m lt) (stL k h)):Runs G t v (l.drop i) T S:=by
 rw [z9X hi];exact Runs.step hG hp hn
theorem zgB {G:Good} {t:Tmp} {v:Bool} {i:Nat} {l:List Code} {T:Fr} {S:St} (hi:Nat.blt i l.length=true) (hr:zqU (z0S l i)=true) (h:ob (T.t.get t) z3l=some v):Runs G t (.bool v) (l.drop i) T S:=by
 rw [z9X hi]
 cases hc:z0S l i <;> rw [hc] at hr <;> first | (cases hr;done) | skip
 obtain ⟨u,hu,h1⟩:=z8 h
 have:=z5o h1;subst this
 exact Runs.ret hu
theorem zja {G:Good} (hG:Yj G) (hro:G.E.rom = .nil) {f:FuncId} {t:Tmp} {N:Nat} {v:Bool} (hk:zdX G.P f t N=true) (h:Runs G t (.bool v) ((zlL (zfs G.P f)).drop 0) ⟨N,.nil⟩ St.empty) (w:World) :
  Calls G.P f #[] w (fun e w'=>e = .returned (.bool v)∧SameIo w w'∧w.heap.size≤w'.heap.size∧∀ c,c<w.heap.size→w'.heap[c]? = w.heap[c]?):=by
 unfold zdX at hk
 split at hk
 ·rename_i fn hf
  split at hk
  ·rename_i c hc
   rw [yw] at hk
   obtain ⟨h1,h2⟩:=hk
   have hb:zfs G.P f=c:=by simp only [zfs,hf,hc,Option.getD_some]
   have hr:fn.results.toList=[.tmp t]:=by
    unfold zpw at h1
    split at h1
    ·rename_i s e;rw [e,zm h1]
    ·cases h1
   rw [hb,←zm h2] at h
   exact zdW hG hro hf hc hr h w
  ·cases hk
 ·cases hk
end
section
structure Memo where
 f:Nat
 args:List Value
 size:Nat
 h:List (Nat×Yg)
 v:Value
noncomputable section
def zqF (v:Value) (n:Nat) (r:Option (Value×St)):Bool:=match r with
 | some q=>zii v&&(eqV 6 v q.1&&Nat.ble n q.2.low)
 | none=>false
def Memo.ok (m:Memo) (E:Env) (fuel:Nat):Bool:=zqF m.v m.size ((run E fuel).call m.f m.args (stL m.size m.h))
end
abbrev Kn:=List (Nat×Value)
def lk:Kn→Nat→Option Value
 | [],_=>none
 | (s,v)::l,t=>bif Nat.beq s t then some v else lk l t
def lv (l:Kn):Operand→Option Value
 | .tmp t=>lk l t
 | .const v=>some v
 | .global _=>none
 | .func f=>some (.func (.func f) #[] #[])
noncomputable def lvs (l:Kn):List Operand→Option (List Value)
 | []=>some []
 | x::xs=>ob (lv l x) fun v=>ob (lvs l xs) fun vs=>some (v::vs)
def Fits (l:Kn) (T:Fr):Prop:=∀ t v,lk l t=some v→T.t.get t=some v
theorem Fits.ev {l:Kn} {T:Fr} (h:Fits l T) {x:Operand} {v:Value} (hx:lv l x=some v):T.ev x=some v:=by
 cases x with
 | tmp t=>exact h t v hx
 | const u=>exact hx
 | global g=>cases hx
 | func f=>exact hx
theorem Fits.evs {l:Kn} {T:Fr} (h:Fits l T):∀ {xs:List Operand} {vs:List Value},lvs l xs=some vs→T.evs xs=some vs
 | [],vs,hx=>hx
 | x::xs,vs,hx=>by
  obtain ⟨v,hv,h1⟩:=z8 hx
  obtain ⟨us,hu,h2⟩:=z8 h1
  show ob (T.ev x) _=_
  rw [h.ev hv]
  show ob (T.evs xs) _=_
  rw [h.evs hu]
  exact h2
theorem Fits.put {l:Kn} {T:Fr} (h:Fits l T) {d:Nat} (hd:Nat.blt d T.n=true) (v:Value):∃ T',T.put (some d) v=some T'∧T'.n=T.n∧Fits ((d,v)::l) T':=by
 refine ⟨⟨T.n,T.t.set d v⟩,?_,rfl,fun t u hu=>?_⟩
 ·show gd (Nat.blt d T.n) _=_
  rw [hd];rfl
 ·show (T.t.set d v).get t=some u
  rw [Tr.get_set]
  simp only [lk,Tr.beq_def] at hu
  by_cases e:t=d
  ·subst e;simpa using hu
  ·rw [if_neg e]
   exact h t u (by simpa [show ¬ d=t from fun e'=>e e'.symm] using hu)
theorem Fits.weak {l l':Kn} {T:Fr} (h:Fits l T) (hw:∀ p∈l',lk l p.1=some p.2):Fits l' T:=by
 intro t v hv
 have:∀ (l':Kn),lk l' t=some v→(t,v)∈l':=by
  intro l'
  induction l' with
  | nil=>intro h;cases h
  | cons p l' ih =>
   intro h
   simp only [lk,Tr.beq_def] at h
   by_cases e:p.1=t
   ·simp only [e,decide_true,cond_true,Option.some.injEq] at h
    have:p=(t,v):=Prod.ext e h
    rw [this];simp
   ·simp only [e,decide_false,cond_false] at h
    exact List.mem_cons_of_mem _ (ih h)
 exact h t v (hw _ (this _ hv))
section
variable {E:Env} {N:Nat}
def Co (E:Env) (c:Code) (rd:Option Nat) (T:Fr) (S:St) (Q:Res→Prop):Prop:=∃ n r,(∀ m,n≤m→(run E m).code c rd T S=some r)∧Q r
def Ca (E:Env) (f:Nat) (args:List Value) (S:St) (Q:Value→St→Prop):Prop:=S.low≤S.size→∃ n v S',(∀ m,n≤m→(run E m).call f args S=some (v,S'))∧S'.low≤S'.size∧Q v S'
abbrev Post:=LExit→Kn→St→Prop
def W (E:Env) (N:Nat) (rd:Option Nat) (c:Code) (l:Kn) (S:St) (Q:Post):Prop:=∀ T,T.n=N→Fits l T→S.low≤S.size →
 Co E c rd T S fun r=>∃ l',r.T.n=N∧Fits l' r.T∧r.S.low≤r.S.size∧Q r.ex l' r.S
def WO (E:Env) (N:Nat) (ops:Array Oper) (rest:List Oper) (l:Kn) (S:St) (Q:Kn→St→Prop):Prop:=∀ T,T.n=N→Fits l T→S.low≤S.size →
 ∃ n r,(∀ m,n≤m→z4P E (run E m).call (run E m).code ops rest T S=some r)∧∃ l',r.1.n=N∧Fits l' r.1∧r.2.low≤r.2.size∧Q l' r.2
theorem W.mono {rd:Option Nat} {c:Code} {l:Kn} {S:St} {Q Q':Post} (h:W E N rd c l S Q) (hq:∀ e l' S',Q e l' S'→Q' e l' S'):W E N rd c l S Q':=by
 intro T hN hT hl
 obtain ⟨n,r,h1,l',h2,h3,h4,h5⟩:=h T hN hT hl
 exact ⟨n,r,h1,l',h2,h3,h4,hq _ _ _ h5⟩
theorem W.weak {rd:Option Nat} {c:Code} {l l':Kn} {S:St} {Q:Post} (h:W E N rd c l' S Q) (hw:∀ p∈l',lk l p.1=some p.2):W E N rd c l S Q :=
 fun T hN hT hl=>h T hN (hT.weak hw) hl
theorem zpK (m:Nat) (c:Code) (rd:Option Nat) (T:Fr) (S:St):(run E (m+1)).code c rd T S=z1C E (run E m).call (run E m).code c rd T S:=rfl
theorem zpP (m f:Nat) (args:List Value) (S:St):(run E (m+1)).call f args S=zjh E (run E m).call (run E m).code f args S:=rfl
theorem zh {n m:Nat} (h:n+1≤m):∃ k,m=k+1∧n≤k:=⟨m - 1,by omega,by omega⟩
theorem W.skip {rd:Option Nat} {l:Kn} {S:St} {Q:Post} (h:Q .normal l S):W E N rd .skip l S Q:=fun T hN hT hl =>
 ⟨1,⟨.normal,T,S⟩,fun m hm=>by obtain ⟨k,rfl,_⟩:=zh hm;rfl,l,hN,hT,hl,h⟩
theorem W.ret {rd:Option Nat} {l:Kn} {S:St} {Q:Post} (h:Q .ret l S):W E N rd .ret l S Q:=fun T hN hT hl =>
 ⟨1,⟨.ret,T,S⟩,fun m hm=>by obtain ⟨k,rfl,_⟩:=zh hm;rfl,l,hN,hT,hl,h⟩
theorem W.exit {rd:Option Nat} {id:Nat} {l:Kn} {S:St} {Q:Post} (h:Q (.exit id) l S):W E N rd (.exit id) l S Q:=fun T hN hT hl =>
 ⟨1,⟨.exit id,T,S⟩,fun m hm=>by obtain ⟨k,rfl,_⟩:=zh hm;rfl,l,hN,hT,hl,h⟩
theorem W.seq {rd:Option Nat} {a b:Code} {l:Kn} {S:St} {Q:Post} (h:W E N rd a l S fun e l' S'=>match e with
  | .normal=>W E N rd b l' S' Q
  | e=>Q e l' S'):W E N rd (.seq a b) l S Q:=by
 intro T hN hT hl
 obtain ⟨n,r,h1,l',h2,h3,h4,h5⟩:=h T hN hT hl
 cases hr:r.ex with
 | normal =>
  rw [hr] at h5
  obtain ⟨n2,r2,h6,h7⟩:=h5 r.T h2 h3 h4
  refine ⟨n+n2+1,r2,fun m hm=>?_,h7⟩
  obtain ⟨k,rfl,hk⟩:=zh hm
  show ob ((run E (k+1)).code a rd T S) (fun q=>zl q ((run E (k+1)).code b rd))=_
  rw [h1 _ (by omega)]
  show zl r _=_
  unfold zl
  rw [hr]
  exact h6 _ (by omega)
 | exit id =>
  rw [hr] at h5
  refine ⟨n+1,r,fun m hm=>?_,l',h2,h3,h4,by rw [hr];exact h5⟩
  obtain ⟨k,rfl,hk⟩:=zh hm
  show ob ((run E (k+1)).code a rd T S) (fun q=>zl q ((run E (k+1)).code b rd))=_
  rw [h1 _ (by omega)]
  show zl r _=_
  unfold zl
  rw [hr]
 | ret =>
  rw [hr] at h5
  refine ⟨n+1,r,fun m hm=>?_,l',h2,h3,h4,by rw [hr];exact h5⟩
  obtain ⟨k,rfl,hk⟩:=zh hm
  show ob ((run E (k+1)).code a rd T S) (fun q=>zl q ((run E (k+1)).code b rd))=_
  rw [h1 _ (by omega)]
  show zl r _=_
  unfold zl
  rw [hr]
theorem W.cond {rd:Option Nat} {c:Operand} {a b:Code} {l:Kn} {S:St} {Q:Post} {t:Bool} (hc:lv l c=some (.bool t)) (h1:t=true→W E N rd a l S Q) (h2:t=false→W E N rd b l S Q):W E N rd (.cond c a b) l S Q:=by
 intro T hN hT hl
 have hev:=hT.ev hc
 have go:∀ k,(run E (k+1)).code (.cond c a b) rd T S=bf t ((run E (k+1)).code a rd T S) ((run E (k+1)).code b rd T S):=fun k=>by
  show ob (ob (T.ev c) z3l) _=_
  rw [hev];rfl
 cases t with
 | true =>
  obtain ⟨n,r,h3,h4⟩:=h1 rfl T hN hT hl
  refine ⟨n+1,r,fun m hm=>?_,h4⟩
  obtain ⟨k,rfl,hk⟩:=zh hm
  rw [go];exact h3 _ (by omega)
 | false =>
  obtain ⟨n,r,h3,h4⟩:=h2 rfl T hN hT hl
  refine ⟨n+1,r,fun m hm=>?_,h4⟩
  obtain ⟨k,rfl,hk⟩:=zh hm
  rw [go];exact h3 _ (by omega)
theorem W.block {rd:Option Nat} {id:Nat} {b:Code} {l:Kn} {S:St} {Q:Post} (h:W E N rd b l S fun e l' S'=>match e with
  | .exit k=>if k=id then Q .normal l' S' else Q (.exit k) l' S'
  | e=>Q e l' S'):W E N rd (.block id b) l S Q:=by
 intro T hN hT hl
 obtain ⟨n,r,h1,l',h2,h3,h4,h5⟩:=h T hN hT hl
 have go:∀ k,n≤k→(run E (k+1)).code (.block id b) rd T S=z8r id r:=fun k hk=>by
  show ob ((run E (k+1)).code b rd T S) (z8r id)=_
  rw [h1 _ (by omega)];rfl
 obtain ⟨ex,T1,S1⟩:=r
 cases ex with
 | normal=>exact ⟨n+1,_,fun m hm=>by obtain ⟨k,rfl,hk⟩:=zh hm;exact go k hk,l',h2,h3,h4,h5⟩
 | ret=>exact ⟨n+1,_,fun m hm=>by obtain ⟨k,rfl,hk⟩:=zh hm;exact go k hk,l',h2,h3,h4,h5⟩
 | exit k0 =>
  refine ⟨n+1,⟨bf (Nat.beq k0 id) .normal (.exit k0),T1,S1⟩,fun m hm=>by obtain ⟨k,rfl,hk⟩:=zh hm;exact go k hk,l',h2,h3,h4,?_⟩
  by_cases e:k0=id
  ·subst e
   simp only [if_pos] at h5
   rw [Nat.beq_refl];exact h5
  ·simp only [if_neg e] at h5
   rw [z0B e];exact h5
theorem W.loop {α : Type} {rd:Option Nat} {b:Code} {Q:Post} (I : α → Kn→St→Prop) (μ : α → Nat)
  (hb:∀ x l S,I x l S→W E N rd b l S fun e l' S'=>match e with
   | .normal=>∃ y l'',I y l'' S'∧(∀ p∈l'',lk l' p.1=some p.2)∧μ y < μ x
   | e=>Q e l' S'):∀ x l S,I x l S→W E N rd (.loop b) l S Q:=by
 have key:∀ k x l S,μ x≤k→I x l S→W E N rd (.loop b) l S Q:=by
  intro k
  induction k with
  | zero =>
   intro x l S hx hI T hN hT hl
   obtain ⟨n,r,h1,l',h2,h3,h4,h5⟩:=hb x l S hI T hN hT hl
   cases hr:r.ex with
   | normal=>rw [hr] at h5;obtain ⟨y,_,_,_,h6⟩:=h5;omega
   | exit id =>
    rw [hr] at h5
    refine ⟨n+1,r,fun m hm=>?_,l',h2,h3,h4,by rw [hr];exact h5⟩
    obtain ⟨k,rfl,hk⟩:=zh hm
    show ob ((run E (k+1)).code b rd T S) _=_
    rw [h1 _ (by omega)]
    show zl r _=_
    unfold zl;rw [hr]
   | ret =>
    rw [hr] at h5
    refine ⟨n+1,r,fun m hm=>?_,l',h2,h3,h4,by rw [hr];exact h5⟩
    obtain ⟨k,rfl,hk⟩:=zh hm
    show ob ((run E (k+1)).code b rd T S) _=_
    rw [h1 _ (by omega)]
    show zl r _=_
    unfold zl;rw [hr]
  | succ k ih =>
   intro x l S hx hI T hN hT hl
   obtain ⟨n,r,h1,l',h2,h3,h4,h5⟩:=hb x l S hI T hN hT hl
   cases hr:r.ex with
   | normal =>
    rw [hr] at h5
    obtain ⟨y,l'',h6,h7,h8⟩:=h5
    obtain ⟨n2,r2,h9,h10⟩:=ih y l'' r.S (by omega) h6 r.T h2 (h3.weak h7) h4
    refine ⟨n+n2+1,r2,fun m hm=>?_,h10⟩
    obtain ⟨k,rfl,hk⟩:=zh hm
    show ob ((run E (k+1)).code b rd T S) _=_
    rw [h1 _ (by omega)]
    show zl r _=_
    unfold zl;rw [hr]
    exact h9 _ (by omega)
   | exit id =>
    rw [hr] at h5
    refine ⟨n+1,r,fun m hm=>?_,l',h2,h3,h4,by rw [hr];exact h5⟩
    obtain ⟨k,rfl,hk⟩:=zh hm
    show ob ((run E (k+1)).code b rd T S) _=_
    rw [h1 _ (by omega)]
    show zl r _=_
    unfold zl;rw [hr]
   | ret =>
    rw [hr] at h5
    refine ⟨n+1,r,fun m hm=>?_,l',h2,h3,h4,by rw [hr];exact h5⟩
    obtain ⟨k,rfl,hk⟩:=zh hm
    show ob ((run E (k+1)).code b rd T S) _=_
    rw [h1 _ (by omega)]
    show zl r _=_
    unfold zl;rw [hr]
 exact fun x l S h=>key (μ x) x l S (ym _) h
theorem W.region {rd:Option Nat} {id:Nat} {ops:Array Oper} {l:Kn} {S:St} {Q:Post} (h:WO E N ops ops.toList l S fun l' S'=>Q .normal l' S'):W E N rd (.region id ops false) l S Q:=by
 intro T hN hT hl
 obtain ⟨n,r,h1,l',h2,h3,h4,h5⟩:=h T hN hT hl
 refine ⟨n+1,⟨.normal,r.1,r.2⟩,fun m hm=>?_,l',h2,h3,h4,h5⟩
 obtain ⟨k,rfl,hk⟩:=zh hm
 show ob (z4P E (run E k).call (run E k).code ops ops.toList T S) zhF=_
 rw [h1 _ hk];rfl
theorem WO.nil {ops:Array Oper} {l:Kn} {S:St} {Q:Kn→St→Prop} (h:Q l S):WO E N ops [] l S Q:=fun T hN hT hl =>
 ⟨0,(T,S),fun _ _=>rfl,l,hN,hT,hl,h⟩
def OpIs (E:Env) (o:Op) (l:Kn) (S:St) (v:Value) (S':St):Prop:=∀ T,Fits l T→∃ n,∀ m,n≤m→zR E (run E m).call (run E m).code T S o=some (v,S')
def ziK (l:Kn) (b:Bool):Option Nat→Option Bool
 | none=>some false
 | some d=>match lk l d with
  | some (.bool c)=>some (c==b)
  | _=>none
noncomputable def guardOf (ops:Array Oper) (l:Kn):Option (Nat×Bool)→Option Bool
 | none=>some true
 | some g=>ziK l g.2 (ob ops.toList[g.1]? (·.dst))
theorem z1m {ops:Array Oper} {l:Kn} {g:Option (Nat×Bool)} {b:Bool} (h:guardOf ops l g=some b) {T:Fr} (hT:Fits l T):z7W ops T g=some b:=by
 cases g with
 | none=>exact h
 | some g =>
  change ziK l g.2 (ob ops.toList[g.1]? (·.dst))=some b at h
  show z7X ops T g=some b
  unfold z7X
  generalize ob ops.toList[g.1]? (·.dst)=d at h
  cases d with
  | none=>exact h
  | some d =>
   simp only [ziK] at h
   split at h
   ·rename_i u hu
    show ob (T.t.get d) _=_
    rw [hT d _ hu]
    exact h
   ·cases h
def z9b (d:Option Tmp) (v:Value) (l:Kn):Kn:=match d with
 | none=>l
 | some d=>(d,v)::l
def zI (d:Option Tmp) (N:Nat):Bool:=match d with
 | none=>true
 | some d=>Nat.blt d N
theorem z4p {T:Fr} {l:Kn} {d:Option Tmp} (hN:T.n=N) (hT:Fits l T) (hd:zI d N=true) (v:Value):∃ T',T.put d v=some T'∧T'.n=N∧Fits (z9b d v l) T':=by
 cases d with
 | none=>exact ⟨T,rfl,hN,hT⟩
 | some d =>
  obtain ⟨T',h1,h2,h3⟩:=hT.put (d:=d) (by rw [hN];exact hd) v
  exact ⟨T',h1,h2.trans hN,h3⟩
theorem WO.step {ops:Array Oper} {o:Oper} {rest:List Oper} {l:Kn} {S S':St} {v:Value} {Q:Kn→St→Prop} (hg:guardOf ops l o.guard=some true) (hd:zI o.dst N=true) (ho:OpIs E o.op l S v S')
  (hl':S.low≤S.size→S'.low≤S'.size) (h:WO E N ops rest (z9b o.dst v l) S' Q):WO E N ops (o::rest) l S Q:=by
 intro T hN hT hl
 obtain ⟨n,h1⟩:=ho T hT
 obtain ⟨T',h2,h3,h4⟩:=z4p hN hT hd v
 obtain ⟨n2,r,h5,h6⟩:=h T' h3 h4 (hl' hl)
 refine ⟨n+n2,r,fun m hm=>?_,h6⟩
 show ob (zq E _ _ ops o T S) _=_
 unfold zq
 rw [z1m hg hT]
 show ob (ob (zR E _ _ T S o.op) (z3P T o.dst)) _=_
 rw [h1 m (by omega)]
 show ob (ob (T.put o.dst v) _) _=_
 rw [h2]
 exact h5 m (by omega)
theorem WO.drop {ops:Array Oper} {o:Oper} {rest:List Oper} {l:Kn} {S:St} {Q:Kn→St→Prop} (hg:guardOf ops l o.guard=some false) (hd:zI o.dst N=true)
  (h:WO E N ops rest (z9b o.dst undef l) S Q):WO E N ops (o::rest) l S Q:=by
 intro T hN hT hl
 obtain ⟨T',h2,h3,h4⟩:=z4p hN hT hd undef
 obtain ⟨n2,r,h5,h6⟩:=h T' h3 h4 hl
 refine ⟨n2,r,fun m hm=>?_,h6⟩
 show ob (zq E _ _ ops o T S) _=_
 unfold zq
 rw [z1m hg hT]
 show ob (ob (T.put o.dst undef) _) _=_
 rw [h2]
 exact h5 m hm
end
noncomputable def zaG (l:Kn):List (Nat×Operand)→Option (List (Nat×Value))
 | []=>some []
 | p::ps=>ob (lv l p.2) fun v=>ob (zaG l ps) fun vs=>some ((p.1,v)::vs)
theorem Fits.parts {l:Kn} {T:Fr} (h:Fits l T):∀ {xs:List (Nat×Operand)} {vs:List (Nat×Value)},zaG l xs=some vs→z3D T xs=some vs
 | [],vs,hx=>by rw [zaG] at hx;exact hx
 | x::xs,vs,hx=>by
  rw [zaG] at hx
  obtain ⟨v,hv,h1⟩:=z8 hx
  obtain ⟨us,hu,h2⟩:=z8 h1
  show ob (T.ev x.2) _=_
  rw [h.ev hv]
  show ob (z3D T xs) _=_
  rw [h.parts hu]
  exact h2
section
variable {E:Env} {N:Nat} {l:Kn} {S S':St} {v u:Value}
theorem OpIs.pure {o:Op} (h:∀ T,Fits l T→∀ cF dF,zR E cF dF T S o=some (v,S')):OpIs E o l S v S':=fun T hT=>⟨0,fun _ _=>h T hT _ _⟩
theorem znB {x:Operand} (h:lv l x=some v):OpIs E (.move x) l S v S:=.pure fun T hT cF dF=>by
 show zG S (T.ev x)=_
 rw [hT.ev h];rfl
theorem zm0 {op:BinOp} {t:TypeId} {x y:Operand} {g:TypeId} {a b:Value} (ha:lv l x=some a) (hb:lv l y=some b) (h:zY E op t a b=some v):OpIs E (.binOp op t x y g) l S v S:=.pure fun T hT cF dF=>by
 show zG S (ob (T.ev x) fun a=>ob (T.ev y) fun b=>zY E op t a b)=_
 rw [hT.ev ha,hT.ev hb]
 show zG S (zY E op t a b)=_
 rw [h];rfl
theorem zos {t:TypeId}:OpIs E (.makeMap t none) l S (.map (some S.size)) (S.new (.map [])):=.pure fun T hT cF dF=>rfl
theorem WO.call {ops:Array Oper} {o:Oper} {rest:List Oper} {Q:Kn→St→Prop} {c:Call} {f:Operand} {g:FuncId} {first cap:Array Value} {args:List Value} {R:Value→St→Prop}
  (hop:o.op = .call c) (hc:c.callee = .value f) (hf:lv l f=some (.func (.func g) first cap)) (ha:lvs l c.args.toList=some args) (hg:guardOf ops l o.guard=some true) (hd:zI o.dst N=true)
  (hR:Ca E g (first.toList++(args++cap.toList)) S R) (h:∀ v S',R v S'→WO E N ops rest (z9b o.dst v l) S' Q):WO E N ops (o::rest) l S Q:=by
 intro T hN hT hl
 obtain ⟨n,v,S',h1,h2,h3⟩:=hR hl
 obtain ⟨T',h4,h5,h6⟩:=z4p hN hT hd v
 obtain ⟨n2,r,h7,h8⟩:=h v S' h3 T' h5 h6 h2
 refine ⟨n+n2,r,fun m hm=>?_,h8⟩
 show ob (zq E _ _ ops o T S) _=_
 unfold zq
 rw [z1m hg hT,hop]
 have:zR E (run E m).call (run E m).code T S (.call c)=some (v,S'):=by
  show ob (T.evs c.args.toList) _=_
  rw [hT.evs ha,hc]
  show ob (T.ev f) _=_
  rw [hT.ev hf]
  exact h1 m (by omega)
 show ob (ob (zR E _ _ T S (.call c)) (z3P T o.dst)) _=_
 rw [this]
 show ob (ob (T.put o.dst v) _) _=_
 rw [h4]
 exact h7 m (by omega)
def zlv:List Value→Nat→Kn
 | [],_=>[]
 | v::vs,i=>(i,v)::zlv vs (i+1)
theorem za1:∀ (vs:List Value) (i:Nat) (t:Tr Value) (n:Nat),Fits (zlv vs i) ⟨n,z10 vs i t⟩
 | [],i,t,n,k,v,h=>by cases h
 | u::vs,i,t,n,k,v,h=>by
  have hset:z10 (u::vs) i t=z10 vs (i+1) (t.set i u):=rfl
  have hkeep:∀ (vs:List Value) (i:Nat) (t:Tr Value) (k:Nat),k<i→(z10 vs i t).get k=t.get k:=by
   intro vs
   induction vs with
   | nil=>intro i t k _;rfl
   | cons w ws ih =>
    intro i t k hk
    show (z10 ws (i+1) (t.set i w)).get k=_
    rw [ih _ _ _ (by omega),Tr.get_set,if_neg (by omega)]
  show (z10 (u::vs) i t).get k=some v
  rw [hset]
  simp only [zlv,lk,Tr.beq_def] at h
  by_cases e:i=k
  ·subst e
   simp only [decide_true,cond_true] at h
   rw [hkeep _ _ _ _ (by omega),Tr.get_set,if_pos rfl];exact h
  ·simp only [e,decide_false,cond_false] at h
   exact za1 vs (i+1) _ n k v h
noncomputable def zn5 (E:Env) (l:Kn) (S:St):List ResultVar→Option (List Value)
 | []=>some []
 | .tmp t::rs=>ob (lk l t) fun v=>ob (zn5 E l S rs) fun vs=>some (v::vs)
 | .cell a t::rs=>ob (ob (ob (lk l a) addrOf) fun p=>z0e E t p S) fun v=>ob (zn5 E l S rs) fun vs=>some (v::vs)
theorem z8j {T:Fr} (hT:Fits l T):∀ {rs:List ResultVar} {vs:List Value},zn5 E l S rs=some vs→z18 E T S rs=some vs
 | [],vs,h=>by rw [zn5] at h;exact h
 | .tmp t::rs,vs,h=>by
  rw [zn5] at h
  obtain ⟨w,hw,h1⟩:=z8 h
  obtain ⟨ws,hws,h2⟩:=z8 h1
  show ob (T.t.get t) _=_
  rw [hT t w hw]
  show ob (z18 E T S rs) _=_
  rw [z8j hT hws];exact h2
 | .cell a t::rs,vs,h=>by
  rw [zn5] at h
  obtain ⟨w,hw,h1⟩:=z8 h
  obtain ⟨ws,hws,h2⟩:=z8 h1
  obtain ⟨p,hp,h3⟩:=z8 hw
  obtain ⟨q,hq,h4⟩:=z8 hp
  show ob (ob (ob (T.t.get a) addrOf) fun p=>z0e E t p S) _=_
  rw [hT a q hq]
  show ob (ob (addrOf q) fun p=>z0e E t p S) _=_
  rw [h4]
  show ob (z0e E t p S) _=_
  rw [h3]
  show ob (z18 E T S rs) _=_
  rw [z8j hT hws];exact h2
def z8u:LExit→Bool
 | .exit _=>false
 | _=>true
theorem Ca.of {f:FuncId} {fn:Func} {c:Code} {args:List Value} {Q:Value→St→Prop} (hh:z2E E f args=false) (hh2:z0A E f=false) (hh3:z2z E f=false) (hf:E.fns.get f=some fn) (hc:fn.body=some c) (ha:Nat.ble args.length fn.ntmps=true)
  (h:S.low≤S.size→W E fn.ntmps none c (zlv args 0) S fun e l' S'=>z8u e=true∧∃ vs,zn5 E l' S' fn.results.toList=some vs∧Q (zkG vs) S'):Ca E f args S Q:=by
 intro hl
 obtain ⟨n,r,h1,l',h2,h3,h4,h5,vs,h6,h7⟩:=h hl ⟨fn.ntmps,z10 args 0 .nil⟩ rfl (za1 _ _ _ _) hl
 refine ⟨n+1,zkG vs,r.S,fun m hm=>?_,h4,h7⟩
 obtain ⟨k,rfl,hk⟩:=zh hm
 show bf (z2E E f args) _ (bf (z0A E f) _ (bf (z2z E f) _ (ob (E.fns.get f) _)))=_
 rw [hh,hh2,hh3]
 show ob (E.fns.get f) _=_
 rw [hf]
 show ob fn.body _=_
 rw [hc]
 show gd (Nat.ble args.length fn.ntmps) (ob (z1C E (run E k).call (run E k).code c none _ S) (z3Z E fn))=_
 rw [ha]
 show ob ((run E (k+1)).code c none _ S) (z3Z E fn)=_
 rw [h1 _ (by omega)]
 show gd (!z8H r.ex) (ob (z18 E r.T r.S fn.results.toList) _)=_
 have:(!z8H r.ex)=true:=by
  cases hx:r.ex with
  | exit id=>rw [hx] at h5;cases h5
  | normal=>rfl
  | ret=>rfl
 rw [this,z8j h3 h6]
 rfl
theorem Ca.hook {f:FuncId} (hk:z2E E f []=true):Ca E f [] S (fun v S'=>v = .bool true∧S'=S):=fun hl =>
 ⟨1,.bool true,S,fun m hm=>by
  obtain ⟨k,rfl,_⟩:=zh hm
  show bf (z2E E f []) _ _=_
  rw [hk];rfl,hl,rfl,rfl⟩
end
def idle:Op→Bool
 | .load .. =>false
 | .store .. =>false
 | .call .. =>false
 | .next .. =>false
 | .slice .. =>false
 | .lookup .. =>false
 | .mapUpdate .. =>false
 | .mapEntry .. =>false
 | .entryStore .. =>false
 | _=>true
theorem z6E {o:Op} (h:idle o=true) (T:Fr):zH T o=some []:=by
 cases o <;> first | rfl | cases h
def zrs (ops:List Oper) (bs:List Nat) (r0:Nat) (q:Nat×Nat×Nat):Prop:=∀ k o t,ops[k]? = some o→k≠q.1→(idle o.op=true→t=some [])→z1j bs r0 q.1 q.2.1 q.2.2 k t=true
structure DInv (ops:List Oper) (bs:List Nat) (r0 i:Nat) (D:Dr):Prop where
 r:D.r=r0∧D.rgs=[]
 recs:∀ q∈D.recs,q.1<i∧∀ o,ops[q.1]? = some o→idle o.op=true→q.2=some []
 wrs:∀ q∈D.wrs,q.1<i∧zrs ops bs r0 q
section
variable {E:Env} {N:Nat} {ops:Array Oper} {bs:List Nat} {r0:Nat}
def WD (E:Env) (N:Nat) (ops:Array Oper) (bs:List Nat) (r0:Nat) (rest:List Oper) (i:Nat) (l:Kn) (S:St) (Q:Kn→St→Prop):Prop:=∀ T D,T.n=N→Fits l T→S.low≤S.size→DInv ops.toList bs r0 i D →
 ∃ n r,(∀ m,n≤m→z4g E (run E m).call (run E m).code ops bs rest i D T S=some r)∧∃ l',r.1.n=N∧Fits l' r.1∧r.2.low≤r.2.size∧Q l' r.2
theorem W.draw {rd:Option Nat} {id:Nat} {l:Kn} {S:St} {Q:Post} (h:WD E N ops (z4M ops.toList []) S.size ops.toList 0 l S fun l' S'=>Q .normal l' S'):W E N rd (.region id ops true) l S Q:=by
 intro T hN hT hl
 obtain ⟨n,r,h1,l',h2,h3,h4,h5⟩:=h T ⟨S.size,[],[],[],[]⟩ hN hT hl ⟨⟨rfl,rfl⟩,(fun q h=>by cases h),(fun q h=>by cases h)⟩
 refine ⟨n+1,⟨.normal,r.1,r.2⟩,fun m hm=>?_,l',h2,h3,h4,h5⟩
 obtain ⟨k,rfl,hk⟩:=zh hm
 show ob (z4g E (run E k).call (run E k).code ops (z4M ops.toList []) ops.toList 0 ⟨S.size,[],[],[],[]⟩ T S) zhF=_
 rw [h1 _ hk];rfl
theorem WD.nil {i:Nat} {l:Kn} {S:St} {Q:Kn→St→Prop} (h:Q l S):WD E N ops bs r0 [] i l S Q:=fun T D hN hT hl _ =>
 ⟨0,(T,S),fun _ _=>rfl,l,hN,hT,hl,h⟩
abbrev St.at0 (S:St):St:=⟨S.heap,S.size,S.size⟩
abbrev St.back (S S1:St):St:=⟨S1.heap,S1.size,Nat.min S.low S1.low⟩
theorem z95 {i:Nat} {o:Oper} {D:Dr} {T:Fr} {size:Nat} (hi:ops.toList[i]? = some o) (hD:DInv ops.toList bs r0 i D):DInv ops.toList bs r0 (i+1) ⟨D.r,D.starts++[size],(i,zH T o.op)::D.recs,D.wrs,D.rgs⟩:=by
 refine ⟨hD.r,fun q hq=>?_,fun q hq=>⟨Nat.lt_succ_of_lt (hD.wrs q hq).1,(hD.wrs q hq).2⟩⟩
 rcases List.mem_cons.1 hq with rfl | hq
 ·refine ⟨Nat.lt_succ_self _,fun o' ho' hid=>?_⟩
  rw [hi] at ho';cases ho'
  exact z6E hid T
 ·exact ⟨Nat.lt_succ_of_lt (hD.recs q hq).1,(hD.recs q hq).2⟩
theorem zlU {o:Op} {r i X m:Nat} {l:List (Nat×Option (List Nat))} (h:∀ q∈l,z1j bs r i X m q.1 q.2=true):z1N ops o bs r i X m l=true :=
 List.all_eq_true.2 fun q hq=>by rw [Bool.or_eq_true];exact .inl (h q hq)
theorem zkn {i:Nat} {o:Oper} {D:Dr} {T:Fr} (hi:ops.toList[i]? = some o) (hD:DInv ops.toList bs r0 i D):((D.wrs.isEmpty||zaA bs D.r i (zH T o.op) D.wrs)&&zkH bs i (zH T o.op) D.rgs)=true:=by
 rw [hD.r.2,yw]
 refine ⟨?_,rfl⟩
 rw [Bool.or_eq_true]
 refine .inr (List.all_eq_true.2 fun w hw=>?_)
 obtain ⟨h1,h2⟩:=hD.wrs w hw
 rw [hD.r.1]
 exact h2 i o _ hi (by omega) fun h=>z6E h T
theorem zaX {i:Nat} {o:Oper} {D:Dr} {T:Fr} {size low:Nat} (hi:ops.toList[i]? = some o) (hD:DInv ops.toList bs r0 i D) (h:size≤low∨uni bs i=true) :
  z0s ops bs i T size low o.op D=some ⟨D.r,D.starts++[size],(i,zH T o.op)::D.recs,D.wrs,D.rgs⟩:=by
 unfold z0s
 rw [zkn hi hD]
 have:(Nat.ble size low||uni bs i)=true:=by
  rw [Bool.or_eq_true]
  exact h.imp (fun h=>Nat.ble_eq_true_of_le h) id
 rw [this];rfl
theorem z4w {X s:Nat} (h:X<s):∀ l,zx X (l++[s])=zx X l
 | []=>by
  show bf (Nat.ble s X) _ 0=0
  cases hb:Nat.ble s X with
  | false=>rfl
  | true=>have:=Nat.le_of_ble_eq_true hb;omega
 | b::l=>by
  show bf (Nat.ble b X) (1+zx X (l++[s])) 0=bf (Nat.ble b X) (1+zx X l) 0
  rw [z4w h l]
theorem z5f {X:Nat}:∀ (l:List Nat),(∀ s∈l,s≤X)→zx X l=l.length
 | [],_=>rfl
 | b::l,h=>by
  show bf (Nat.ble b X) (1+zx X l) 0=l.length+1
  rw [Nat.ble_eq_true_of_le (h b List.mem_cons_self),z5f l fun s hs=>h s (List.mem_cons_of_mem _ hs),Nat.add_comm];rfl
theorem zhq {T:Fr} {o:Oper} {l:Kn} {S S':St} {v:Value} (hN:T.n=N) (hT:Fits l T) (hg:guardOf ops l o.guard=some true) (hd:zI o.dst N=true) (ho:OpIs E o.op l S v S') :
  ∃ T' n,T'.n=N∧Fits (z9b o.dst v l) T'∧∀ m,n≤m→zq E (run E m).call (run E m).code ops o T S=some (T',S'):=by
 obtain ⟨n,h1⟩:=ho T hT
 obtain ⟨T',h2,h3,h4⟩:=z4p hN hT hd v
 refine ⟨T',n,h3,h4,fun m hm=>?_⟩
 unfold zq
 rw [z1m hg hT]
 show ob (zR E _ _ T S o.op) (z3P T o.dst)=_
 rw [h1 m hm]
 show ob (T.put o.dst v) _=_
 rw [h2];rfl
theorem zkO {a b n:Nat} (h:a≤n):Nat.min a (Nat.min b n)=Nat.min b a:=by
 show min a (min b n)=min b a
 omega
theorem z1P {S S1:St} (hl:S1.low≤S1.size):(S.back S1).low≤(S.back S1).size:=yn (Nat.min_le_right _ _) hl
theorem WD.step {i:Nat} {o:Oper} {rest:List Oper} {l:Kn} {S S1:St} {v:Value} {Q:Kn→St→Prop} (hi:ops.toList[i]? = some o) (hg:guardOf ops l o.guard=some true) (hd:zI o.dst N=true)
  (ho:OpIs E o.op l S.at0 v S1) (hl':S1.low≤S1.size) (hw:S.size≤S1.low∨uni bs i=true) (h:WD E N ops bs r0 rest (i+1) (z9b o.dst v l) (S.back S1) Q):WD E N ops bs r0 (o::rest) i l S Q:=by
 intro T D hN hT hl hD
 obtain ⟨T',n,h1,h2,h3⟩:=zhq hN hT hg hd ho
 obtain ⟨n2,r,h5,h6⟩:=h T' _ h1 h2 (z1P hl') (z95 (T:=T) (size:=S.size) hi hD)
 refine ⟨n+n2,r,fun m hm=>?_,h6⟩
 show ob (zq E _ _ ops o T S.at0) _=_
 rw [h3 m (by omega)]
 show ob (z0s ops bs i T S.size S1.low o.op D) _=_
 rw [zaX hi hD hw]
 exact h5 m (by omega)
theorem WD.keep {i:Nat} {o:Oper} {rest:List Oper} {l:Kn} {S:St} {v:Value} {Q:Kn→St→Prop} (hi:ops.toList[i]? = some o) (hg:guardOf ops l o.guard=some true) (hd:zI o.dst N=true)
  (ho:OpIs E o.op l S.at0 v S.at0) (h:WD E N ops bs r0 rest (i+1) (z9b o.dst v l) S Q):WD E N ops bs r0 (o::rest) i l S Q:=by
 intro T D hN hT hl hD
 refine WD.step hi hg hd ho (ym _) (.inl (ym _)) ?_ T D hN hT hl hD
 have:S.back S.at0=S:=by
  cases S;simp only [St.back,St.at0,St.mk.injEq,true_and];exact Nat.min_eq_left hl
 rw [this];exact h
theorem WD.new {i:Nat} {o:Oper} {rest:List Oper} {l:Kn} {S:St} {v:Value} {x:Yg} {Q:Kn→St→Prop} (hi:ops.toList[i]? = some o) (hg:guardOf ops l o.guard=some true) (hd:zI o.dst N=true)
  (ho:OpIs E o.op l S.at0 v (S.at0.new x)) (h:WD E N ops bs r0 rest (i+1) (z9b o.dst v l) (S.new x) Q):WD E N ops bs r0 (o::rest) i l S Q:=by
 intro T D hN hT hl hD
 refine WD.step hi hg hd ho (Nat.le_succ _) (.inl (ym _)) ?_ T D hN hT hl hD
 have:S.back (S.at0.new x)=S.new x:=by
  cases S;simp only [St.back,St.at0,St.new,St.mk.injEq,true_and];exact Nat.min_eq_left hl
 rw [this];exact h
theorem WD.put {i:Nat} {o:Oper} {rest:List Oper} {l:Kn} {S:St} {v:Value} {b:Nat} {x:Yg} {Q:Kn→St→Prop} (hi:ops.toList[i]? = some o) (hg:guardOf ops l o.guard=some true) (hd:zI o.dst N=true)
  (ho:OpIs E o.op l S.at0 v (S.at0.put b x)) (hu:uni bs i=true) (h:WD E N ops bs r0 rest (i+1) (z9b o.dst v l) (S.put b x) Q):WD E N ops bs r0 (o::rest) i l S Q:=by
 intro T D hN hT hl hD
 refine WD.step hi hg hd ho (Nat.min_le_right _ _) (.inr hu) ?_ T D hN hT hl hD
 have:S.back (S.at0.put b x)=S.put b x:=by
  cases S;simp only [St.back,St.at0,St.put,St.mk.injEq,true_and]
  simp only at hl
  exact zkO hl
 rw [this];exact h
theorem WD.drop {i:Nat} {o:Oper} {rest:List Oper} {l:Kn} {S:St} {Q:Kn→St→Prop} (hi:ops.toList[i]? = some o) (hg:guardOf ops l o.guard=some false) (hd:zI o.dst N=true)
  (h:WD E N ops bs r0 rest (i+1) (z9b o.dst undef l) S Q):WD E N ops bs r0 (o::rest) i l S Q:=by
 intro T D hN hT hl hD
 obtain ⟨T',h2,h3,h4⟩:=z4p hN hT hd undef
 have e:S.back S.at0=S:=by
  cases S;simp only [St.back,St.at0,St.mk.injEq,true_and];exact Nat.min_eq_left hl
 obtain ⟨n2,r,h5,h6⟩:=h T' _ h3 h4 hl (z95 (T:=T) (size:=S.size) hi hD)
 refine ⟨n2,r,fun m hm=>?_,h6⟩
 have hs:zq E (run E m).call (run E m).code ops o T S.at0=some (T',S.at0):=by
  unfold zq
  rw [z1m hg hT]
  show ob (T.put o.dst undef) _=_
  rw [h2];rfl
 show ob (zq E _ _ ops o T S.at0) _=_
 rw [hs]
 show ob (z0s ops bs i T S.size S.size o.op D) (fun D'=>z4g E _ _ ops bs rest (i+1) D' T' (S.back S.at0))=_
 rw [zaX hi hD (.inl (ym _)),e]
 exact h5 m hm
theorem WD.call {i:Nat} {o:Oper} {rest:List Oper} {l:Kn} {S:St} {Q:Kn→St→Prop} {c:Call} {f:Operand} {g:FuncId} {first cap:Array Value} {args:List Value} {R:Value→St→Prop} (hi:ops.toList[i]? = some o)
  (hop:o.op = .call c) (hc:c.callee = .value f) (hf:lv l f=some (.func (.func g) first cap)) (ha:lvs l c.args.toList=some args) (hg:guardOf ops l o.guard=some true) (hd:zI o.dst N=true)
  (hR:Ca E g (first.toList++(args++cap.toList)) S.at0 R) (h:∀ v S1,R v S1→(S.size≤S1.low∨uni bs i=true)∧WD E N ops bs r0 rest (i+1) (z9b o.dst v l) (S.back S1) Q):WD E N ops bs r0 (o::rest) i l S Q:=by
 intro T D hN hT hl hD
 obtain ⟨n,v,S1,h1,h2,h3⟩:=hR (ym _)
 have ho:OpIs E (.call c) [] S.at0 v S1→True:=fun _=>trivial
 obtain ⟨T',h4,h5,h6⟩:=z4p hN hT hd v
 obtain ⟨hw,h⟩:=h v S1 h3
 obtain ⟨n2,r,h7,h8⟩:=h T' _ h5 h6 (z1P h2) (z95 (T:=T) (size:=S.size) hi hD)
 refine ⟨n+n2,r,fun m hm=>?_,h8⟩
 have he:zR E (run E m).call (run E m).code T S.at0 o.op=some (v,S1):=by
  rw [hop]
  show ob (T.evs c.args.toList) _=_
  rw [hT.evs ha,hc]
  show ob (T.ev f) _=_
  rw [hT.ev hf]
  exact h1 m (by omega)
 have hs:zq E (run E m).call (run E m).code ops o T S.at0=some (T',S1):=by
  unfold zq
  rw [z1m hg hT]
  show ob (zR E _ _ T S.at0 o.op) (z3P T o.dst)=_
  rw [he]
  show ob (T.put o.dst v) _=_
  rw [h4];rfl
 show ob (zq E _ _ ops o T S.at0) _=_
 rw [hs]
 show ob (z0s ops bs i T S.size S1.low o.op D) _=_
 rw [zaX hi hD hw]
 exact h7 m (by omega)
end
section
variable {E:Env} {l:Kn} {S:St}
theorem wrap64 {n:Int} (h1 : -9223372036854775808≤n) (h2:n<9223372036854775808):IntKind.i64.wrap n=n:=IntWalk.i64_in _ (by omega)
variable {t:TypeId} {a b:Int}
theorem zpZ:zY E .lss t (.int .i64 a) (.int .i64 b)=some (.bool (decide (a<b))):=rfl
theorem zrf:zY E .leq t (.int .i64 a) (.int .i64 b)=some (.bool (decide (a≤b))):=rfl
theorem zrh:zY E .gtr t (.int .i64 a) (.int .i64 b)=some (.bool (decide (a > b))):=rfl
theorem zri:zY E .geq t (.int .i64 a) (.int .i64 b)=some (.bool (decide (a ≥ b))):=rfl
theorem zrj:zY E .eql t (.int .i64 a) (.int .i64 b)=some (.bool (a==b)):=rfl
theorem zrd:zY E .neq t (.int .i64 a) (.int .i64 b)=some (.bool (!(a==b))):=rfl
theorem zrl (h1 : -9223372036854775808≤a+b) (h2:a+b<9223372036854775808):zY E .add t (.int .i64 a) (.int .i64 b)=some (.int .i64 (a+b)):=by
 show some (Value.int .i64 (IntKind.i64.wrap (a+b)))=_
 rw [wrap64 h1 h2]
theorem zr8 (h1 : -9223372036854775808≤a - b) (h2:a - b<9223372036854775808):zY E .sub t (.int .i64 a) (.int .i64 b)=some (.int .i64 (a - b)):=by
 show some (Value.int .i64 (IntKind.i64.wrap (a - b)))=_
 rw [wrap64 h1 h2]
theorem zre (h1 : -9223372036854775808≤a*b) (h2:a*b<9223372036854775808):zY E .mul t (.int .i64 a) (.int .i64 b)=some (.int .i64 (a*b)):=by
 show some (Value.int .i64 (IntKind.i64.wrap (a*b)))=_
 rw [wrap64 h1 h2]
theorem zrb (h:b≠0):zY E .rem t (.int .i64 a) (.int .i64 b)=some (.int .i64 (a.tmod b)):=by
 show z1s (Op.intDiv .rem .i64 a b)=_
 unfold Op.intDiv
 rw [if_neg h];rfl
theorem zrc (h:b≠0) (h1 : -9223372036854775808≤a.tdiv b) (h2:a.tdiv b<9223372036854775808):zY E .quo t (.int .i64 a) (.int .i64 b)=some (.int .i64 (a.tdiv b)):=by
 show z1s (Op.intDiv .quo .i64 a b)=_
 unfold Op.intDiv
 rw [if_neg h]
 show some (Value.int .i64 (IntKind.i64.wrap (a.tdiv b)))=_
 rw [wrap64 h1 h2]
theorem z5X (r:BitVec 64) (h:r.toNat<9223372036854775808):IntKind.i64.wrap (Int.ofNat r.toNat)=Int.ofNat r.toNat:=wrap64 (by simp only [yl];omega) (by simp only [yl];omega)
theorem z1S (m:Nat):BitVec.ofInt 64 (Int.ofNat m)=BitVec.ofNat 64 m:=by
 apply BitVec.eq_of_toNat_eq
 rw [BitVec.toNat_ofInt,BitVec.toNat_ofNat,yl]
 omega
theorem zi7 (k:Nat) (h:k<9223372036854775808):BitVec.ofInt 64 (Int.negSucc k)=BitVec.ofNat 64 (18446744073709551615 - k):=by
 apply BitVec.eq_of_toNat_eq
 rw [BitVec.toNat_ofInt,BitVec.toNat_ofNat,Int.negSucc_eq]
 omega
theorem z2h {m:Nat} (h:m<18446744073709551616):(BitVec.ofNat 64 m).toNat=m:=by
 rw [BitVec.toNat_ofNat];exact Nat.mod_eq_of_lt h
theorem zrk {m k:Nat} (hm:m<9223372036854775808) (hk:k<9223372036854775808):zY E .and t (.int .i64 (Int.ofNat m)) (.int .i64 (Int.ofNat k))=some (.int .i64 (Int.ofNat (m &&& k))):=by
 show some (Value.int .i64 (IntKind.i64.wrap (Int.ofNat (BitVec.ofInt 64 (Int.ofNat m) &&& BitVec.ofInt 64 (Int.ofNat k)).toNat)))=_
 have h1:(BitVec.ofInt 64 (Int.ofNat m) &&& BitVec.ofInt 64 (Int.ofNat k)).toNat=m &&& k:=by
  rw [z1S,z1S,BitVec.toNat_and,z2h (by omega),z2h (by omega)]
 have h2:m &&& k≤m:=Nat.and_le_left
 rw [z5X _ (by rw [h1];omega),h1]
theorem zq0 {m k:Nat} (hm:m<9223372036854775808) (hk:k<9223372036854775808):zY E .and t (.int .i64 (Int.ofNat m)) (.int .i64 (Int.negSucc k))=some (.int .i64 (Int.ofNat (m &&& (18446744073709551615 - k)))):=by
 show some (Value.int .i64 (IntKind.i64.wrap (Int.ofNat (BitVec.ofInt 64 (Int.ofNat m) &&& BitVec.ofInt 64 (Int.negSucc k)).toNat)))=_
 have h1:(BitVec.ofInt 64 (Int.ofNat m) &&& BitVec.ofInt 64 (Int.negSucc k)).toNat=m &&& (18446744073709551615 - k):=by
  rw [z1S,zi7 k hk,BitVec.toNat_and,z2h (by omega),z2h (by omega)]
 have h2:m &&& (18446744073709551615 - k)≤m:=Nat.and_le_left
 rw [z5X _ (by rw [h1];omega),h1]
theorem zs3 {m k:Nat} (hm:m<9223372036854775808) (hk:k<9223372036854775808):zY E .or t (.int .i64 (Int.ofNat m)) (.int .i64 (Int.ofNat k))=some (.int .i64 (Int.ofNat (m ||| k))):=by
 show some (Value.int .i64 (IntKind.i64.wrap (Int.ofNat (BitVec.ofInt 64 (Int.ofNat m) ||| BitVec.ofInt 64 (Int.ofNat k)).toNat)))=_
 have h1:(BitVec.ofInt 64 (Int.ofNat m) ||| BitVec.ofInt 64 (Int.ofNat k)).toNat=m ||| k:=by
  rw [z1S,z1S,BitVec.toNat_or,z2h (by omega),z2h (by omega)]
 have h2:m ||| k<2 ^ 63:=Nat.or_lt_two_pow (by omega) (by omega)
 rw [z5X _ (by rw [h1];omega),h1]
theorem zlr {m k:Nat} (hm:m<9223372036854775808) (hk:k<9223372036854775808):zY E .andNot t (.int .i64 (Int.ofNat m)) (.int .i64 (Int.ofNat k))=some (.int .i64 (Int.ofNat (m ^^^ (m &&& k)))):=by
 show some (Value.int .i64 (IntKind.i64.wrap (Int.ofNat (BitVec.ofInt 64 (Int.ofNat m) &&& ~~~ BitVec.ofInt 64 (Int.ofNat k)).toNat)))=_
 have h1:(BitVec.ofInt 64 (Int.ofNat m) &&& ~~~ BitVec.ofInt 64 (Int.ofNat k)).toNat=m ^^^ (m &&& k):=by
  rw [z1S,z1S]
  have h3:(BitVec.ofNat 64 m &&& ~~~ BitVec.ofNat 64 k)=BitVec.ofNat 64 m ^^^ (BitVec.ofNat 64 m &&& BitVec.ofNat 64 k):=by
   apply BitVec.eq_of_getLsbD_eq
   intro i hi
   simp only [BitVec.getLsbD_and,BitVec.getLsbD_not,BitVec.getLsbD_xor,hi,decide_true,Bool.true_and]
   cases (BitVec.ofNat 64 m).getLsbD i <;> cases (BitVec.ofNat 64 k).getLsbD i <;> rfl
  rw [h3,BitVec.toNat_xor,BitVec.toNat_and,z2h (by omega),z2h (by omega)]
 have h2:m ^^^ (m &&& k)<2 ^ 63:=Nat.xor_lt_two_pow (by omega) (by have:m &&& k≤m:=Nat.and_le_left;omega)
 rw [z5X _ (by rw [h1];omega),h1]
theorem zra {m k:Nat} (hk:k<64) (hm:m <<< k<9223372036854775808):zY E .shl t (.int .i64 (Int.ofNat m)) (.int .i64 (Int.ofNat k))=some (.int .i64 (Int.ofNat (m <<< k))):=by
 show z1s (Op.shift .shl .i64 (Int.ofNat m) .i64 (Int.ofNat k))=_
 unfold Op.shift
 rw [if_neg (by simp only [yl];omega)]
 show some (Value.int .i64 (IntKind.i64.wrap (Int.ofNat m*2 ^ (min k 64))))=_
 have h1:Int.ofNat m*2 ^ (min k 64)=Int.ofNat (m <<< k):=by
  rw [Nat.min_eq_left (by omega),Nat.shiftLeft_eq,yl,yl]
  simp
 obtain ⟨x,hx⟩:∃ x,x=m <<< k:=⟨_,rfl⟩
 rw [←hx] at hm h1
 rw [←hx,h1,wrap64 (by simp only [yl];omega) (by simp only [yl];omega)]
theorem zr9 {m k:Nat} (hk:k<64):zY E .shr t (.int .i64 (Int.ofNat m)) (.int .i64 (Int.ofNat k))=some (.int .i64 (Int.ofNat (m >>> k))):=by
 show z1s (Op.shift .shr .i64 (Int.ofNat m) .i64 (Int.ofNat k))=_
 unfold Op.shift
 rw [if_neg (by simp only [yl];omega)]
 show some (Value.int .i64 ((Int.ofNat m).fdiv (2 ^ (min k 64))))=_
 have h1:(Int.ofNat m).fdiv (2 ^ (min k 64))=Int.ofNat (m >>> k):=by
  rw [Nat.min_eq_left (by omega),Nat.shiftRight_eq_div_pow,yl,yl,Int.fdiv_eq_ediv_of_nonneg _ (Int.pow_nonneg (by decide))]
  simp
 rw [h1]
theorem zrg {n:Nat} (h:n<9223372036854775807):zY E .add t (.int .i64 (Int.ofNat n)) (.int .i64 1)=some (.int .i64 (Int.ofNat (n+1))):=by
 show some (Value.int .i64 (IntKind.i64.wrap (Int.ofNat n+1)))=_
 rw [wrap64 (by simp only [yl];omega) (by simp only [yl];omega)]
 rfl
end
structure Grow (S S1:St):Prop where
 size:S.size≤S1.size
 old:∀ b,b<S.size→S1.heap.get b=S.heap.get b
 low:S1.low=S.low
theorem Grow.refl (S:St):Grow S S:=⟨ym _,fun _ _=>rfl,rfl⟩
theorem Grow.trans {S S1 S2:St} (h:Grow S S1) (k:Grow S1 S2):Grow S S2 :=
 ⟨yn h.size k.size,fun b hb=>(k.old b (yo hb h.size)).trans (h.old b hb),k.low.trans h.low⟩
theorem Grow.new {S S1:St} (h:Grow S S1) (o:Yg):Grow S (S1.new o) :=
 ⟨Nat.le_succ_of_le h.size,fun b hb=>by rw [z0j,if_neg (by have:=h.size;omega)];exact h.old b hb,h.low⟩
theorem Grow.put {S S1:St} (h:Grow S S1) {b:Nat} (hl:S.low≤S.size) (hb:S.size≤b) (o:Yg):Grow S (S1.put b o) :=
 ⟨h.size,fun c hc=>by rw [get_put,if_neg (by omega)];exact h.old c hc,by
  show Nat.min b S1.low=S.low
  rw [h.low];show min b S.low=S.low;omega⟩
theorem Grow.cells {S S1:St} (h:Grow S S1) {b:Nat} {c:List Value×TypeId} (hb:b<S.size) (hc:S.cells b=some c):S1.cells b=some c:=by
 unfold St.cells at *;rw [h.old b hb];exact hc
theorem z0c {S:St} {c:List Value} {t:TypeId}:(S.new (.cells c t)).cells S.size=some (c,t):=by
 unfold St.cells;rw [z0j,if_pos rfl];rfl
theorem z7k {S:St} {o:Yg} {b:Nat} (hb:b≠S.size):(S.new o).cells b=S.cells b:=by
 unfold St.cells;rw [z0j,if_neg hb]
theorem z3k {S:St} {b:Nat} {c:List Value} {t:TypeId}:(S.put b (.cells c t)).cells b=some (c,t):=by
 unfold St.cells;rw [get_put,if_pos rfl];rfl
theorem zcE {S:St} {o:Yg} {b d:Nat} (hb:d≠b):(S.put b o).cells d=S.cells d:=by
 unfold St.cells;rw [get_put,if_neg hb]
section
variable {E:Env} {N:Nat}
theorem zgL {l l':Kn} {a:Nat} {v:Value} (h:lk l a=some v) (hl:∀ p∈l',lk l p.1=some p.2):∀ p∈(a,v)::l',lk l p.1=some p.2:=fun p hp=>by
 rcases List.mem_cons.1 hp with rfl | hp
 ·exact h
 ·exact hl p hp
def roundPost (ti tn ts idb n k:Nat) (I:Nat→Kn→St→Prop) (Q:Post):Post:=fun e l' S'=>match e with
 | .normal=>lk l' ti=some (.int .i64 (Int.ofNat k))∧lk l' tn=some (.int .i64 (Int.ofNat n))∧∃ l'',I (k+1) l'' S'∧(l''.all fun p=>!Nat.beq ti p.1 && !Nat.beq ts p.1)=true∧∀ p∈l'',lk l' p.1=some p.2
 | .exit j=>if j=idb then Q .normal l' S' else Q (.exit j) l' S'
 | .ret=>Q .ret l' S'
theorem W.range {rd:Option Nat} {ti tn tc ts idb id2 r1 r2:Nat} {t1 t2 t3 t4 ty1 ty2 ty3:TypeId} {p1 p2 p3:String} {a1 a2 a3:Array Edge} {body:Code} {l:Kn} {S:St} {Q:Post} (n:Nat) (hn:n<9223372036854775807) (I:Nat→Kn→St→Prop)
  (hN:(Nat.blt tc N&&(Nat.blt ts N&&Nat.blt ti N))=true) (hne:(!Nat.beq tc ti&&(!Nat.beq tc tn&&(!Nat.beq ts ti&&(!Nat.beq ts tn && !Nat.beq ti tn))))=true)
  (hi:lk l ti=some (.int .i64 (Int.ofNat 0))) (hl:lk l tn=some (.int .i64 (Int.ofNat n))) (h0:∃ l0,I 0 l0 S∧∀ p∈l0,lk l p.1=some p.2)
  (hb:∀ k l S,k<n→I k l S→W E N rd (.block id2 body) ((tc,.bool true)::(ti,.int .i64 (Int.ofNat k))::(tn,.int .i64 (Int.ofNat n))::l) S (roundPost ti tn ts idb n k I Q))
  (he:∀ l S,I n l S→Q .normal ((tc,.bool false)::(ti,.int .i64 (Int.ofNat n))::(tn,.int .i64 (Int.ofNat n))::l) S) :
  W E N rd (.block idb (.loop (.seq (.region r1 #[⟨some tc,.binOp .lss t1 (.tmp ti) (.tmp tn) t2,ty1,p1,a1,none⟩] false)
   (.seq (.cond (.tmp tc) .skip (.exit idb)) (.seq (.block id2 body) (.region r2 #[⟨some ts,.binOp .add t3 (.tmp ti) (.const (.int .i64 1)) t4,ty2,p2,a2,none⟩,⟨some ti,.move (.tmp ts),ty3,p3,a3,none⟩] false)))))) l S Q:=by
 simp only [yw,Bool.not_eq_true'] at hN hne
 obtain ⟨n1,n2,n3⟩:=hN
 obtain ⟨m1,m2,m3,m4,m5⟩:=hne
 obtain ⟨l0,hI0,hw0⟩:=h0
 have hlk:∀ (a b:Nat) (v:Value) (l:Kn),Nat.beq a b=false→lk ((a,v)::l) b=lk l b:=fun a b v l h=>by
  show (bif Nat.beq a b then some v else lk l b)=_
  rw [h];rfl
 have hlk0:∀ (a:Nat) (v:Value) (l:Kn),lk ((a,v)::l) a=some v:=fun a v l=>by
  show (bif Nat.beq a a then some v else lk l a)=_
  rw [Nat.beq_refl];rfl
 refine W.block (W.weak (l':=(ti,.int .i64 (Int.ofNat 0))::(tn,.int .i64 (Int.ofNat n))::l0) ?_ ?_)
 ·refine W.loop (α :=Nat×Kn) (fun x l S'=>x.1≤n∧I x.1 x.2 S'∧l=(ti,.int .i64 (Int.ofNat x.1))::(tn,.int .i64 (Int.ofNat n))::x.2) (fun x=>n - x.1) ?_ (0,l0) _ _ ⟨yu _,hI0,rfl⟩
  rintro ⟨k,lx⟩ l S' ⟨hk,hI,rfl⟩
  simp only at hk hI
  have hcmp:decide (Int.ofNat k<Int.ofNat n)=decide (k<n):=by
   rw [decide_eq_decide];simp only [yl];omega
  refine W.seq (W.region (WO.step rfl n1 (zm0 (a:=.int .i64 (Int.ofNat k)) (b:=.int .i64 (Int.ofNat n)) (hlk0 _ _ _) (by show lk _ tn=_;rw [hlk _ _ _ _ m5];exact hlk0 _ _ _) zpZ) (fun h=>h) (WO.nil ?_)))
  show W E N rd _ ((tc,.bool (decide (Int.ofNat k<Int.ofNat n)))::_) S' _
  rw [hcmp]
  refine W.seq (W.cond (t:=decide (k<n)) (hlk0 _ _ _) (fun hc=>W.skip ?_) (fun hc=>W.exit ?_))
  ·have hkn:k<n:=of_decide_eq_true hc
   rw [hc]
   refine W.seq ((hb k lx S' hkn hI).mono ?_)
   intro e l' S1 hp
   cases e with
   | exit j=>exact hp
   | ret=>exact hp
   | normal =>
    obtain ⟨h1,h2,l'',h3,h5,h4⟩:=hp
    refine W.region (WO.step rfl n2 (zm0 h1 rfl (zrg (by omega))) (fun h=>h) ?_)
    refine WO.step (o:=⟨some ti,.move (.tmp ts),ty3,p3,a3,none⟩) rfl n3 (znB (hlk0 _ _ _)) (fun h=>h) (WO.nil ?_)
    refine ⟨(k+1,l''),_,⟨hkn,h3,rfl⟩,?_,by simp only;omega⟩
    refine zgL (hlk0 _ _ _) (zgL ?_ fun p hp=>?_)
    ·show lk ((ti,_)::(ts,_)::l') tn=_
     rw [hlk _ _ _ _ m5,hlk _ _ _ _ m4];exact h2
    ·have:=List.all_eq_true.1 h5 p hp
     simp only [yw,Bool.not_eq_true'] at this
     show lk ((ti,_)::(ts,_)::l') p.1=_
     rw [hlk _ _ _ _ this.1,hlk _ _ _ _ this.2];exact h4 p hp
  ·rw [hc]
   show if idb=idb then _ else _
   rw [if_pos rfl]
   have:k=n:=by
    have:=of_decide_eq_false hc
    omega
   subst this
   exact he lx S' hI
 ·intro p hp
  rcases List.mem_cons.1 hp with rfl | hp
  ·exact hi
  ·rcases List.mem_cons.1 hp with rfl | hp
   ·exact hl
   ·exact hw0 p hp
end
def RowS (S:St) (v:Value) (t:TypeId) (sz n:Nat) (cell:Nat→List Value):Prop:=∃ base cap,v = .slice base n cap∧∀ k,k<n→∃ b o sp cs,base=some ⟨b,o,sp⟩∧b<S.size∧S.cells b=some (cs,t)∧cut cs (o+k*sz) sz=some (cell k)
theorem RowS.grow {S S1:St} {v:Value} {t:TypeId} {sz n:Nat} {cell:Nat→List Value} (h:RowS S v t sz n cell) (hG:Grow S S1):RowS S1 v t sz n cell:=by
 obtain ⟨base,cap,h1,h2⟩:=h
 refine ⟨base,cap,h1,fun k hk=>?_⟩
 obtain ⟨b,o,sp,cs,h3,h4,h5,h6⟩:=h2 k hk
 exact ⟨b,o,sp,cs,h3,yo h4 hG.size,hG.cells h4 h5,h6⟩
theorem zaY {cs r:List Value} {o n i:Nat} (h:cut cs o n=some r) (hi:i<n):cs[o+i]? = r[i]? :=by
 unfold cut at h
 obtain ⟨_,h1⟩:=ze h
 cases h1
 rw [List.getElem?_take,if_pos hi,List.getElem?_drop]
theorem znz {n i:Nat} {v:Value} (h:i<n):gd (Nat.blt i n) (some v)=some v:=by
 rw [show Nat.blt i n=true by simpa using h];rfl
inductive PV where
 | int (k:IntKind) (n:Int)
 | bool (b:Bool)
 | str (s:ByteArray)
 | lst (ty:TypeId) (nil:Bool) (n:Nat) (f:Nat→List PV)
 | fp (cs:List PV) (off:Nat)
 | emp
 | nilp
 | nilf
 | nilm
variable {E:Env}
mutual
inductive PR (E:Env) (S:St) (Z:Nat→Prop):PV→Value→Prop
 | int (k:IntKind) (n:Int):PR E S Z (.int k n) (.int k n)
 | bool (b:Bool):PR E S Z (.bool b) (.bool b)
 | str (s:ByteArray):PR E S Z (.str s) (.string s)
 | nil (ty:TypeId) (f:Nat→List PV):PR E S Z (.lst ty true 0 f) (.slice none 0 0)
 | lst {ty:TypeId} {n b o cap sz:Nat} {f:Nat→List PV} {sp:Option Nat} {cs:List Value} {t:TypeId} (g:Nat→List Value) (hz:Z b) (hc:rdc E S b=some (cs,t)) (hcap:n≤cap) (hoff:o≤cs.length) (hty:sp=none∨(t=ty∧E.rom.get b=none))
   (hcut:∀ k,k<n→cut cs (o+k*sz) sz=some (g k)) (h:∀ k,k<n→PRs E S Z (f k) (g k)):PR E S Z (.lst ty false n f) (.slice (some ⟨b,o,sp⟩) n cap)
 | fp {ps:List PV} {off b o:Nat} {cs:List Value} {t:TypeId} {vs:List Value} (hz:Z b) (hc:rdc E S b=some (cs,t)) (hcut:cut cs o ps.length=some vs) (h:PRs E S Z ps vs):PR E S Z (.fp ps off) (.pointer (some ⟨b,o+off,none⟩))
 | emp {b o:Nat} {cs:List Value} {t:TypeId} (hz:Z b) (hc:rdc E S b=some (cs,t)) (ho:o≤cs.length):PR E S Z .emp (.slice (some ⟨b,o,none⟩) 0 0)
 | nilp:PR E S Z .nilp (.pointer none)
 | nilf:PR E S Z .nilf .nilFunc
 | nilm:PR E S Z .nilm (.map none)
inductive PRs (E:Env) (S:St) (Z:Nat→Prop):List PV→List Value→Prop
 | nil:PRs E S Z [] []
 | cons {p:PV} {v:Value} {ps:List PV} {vs:List Value} (h:PR E S Z p v) (hl:PRs E S Z ps vs):PRs E S Z (p::ps) (v::vs)
end
def ZLe (E:Env) (S:St) (Z:Nat→Prop) (S':St) (Z':Nat→Prop):Prop:=∀ b,Z b→Z' b∧rdc E S' b=rdc E S b
mutual
theorem PR.mono {S S':St} {Z Z':Nat→Prop} (hz:ZLe E S Z S' Z') {p:PV} {v:Value}:PR E S Z p v→PR E S' Z' p v
 | .int k n=>.int k n
 | .bool b=>.bool b
 | .str s=>.str s
 | .nil ty f=>.nil ty f
 | .lst g h1 h2 h3 h0 h4 h5 h6=>.lst g (hz _ h1).1 ((hz _ h1).2.trans h2) h3 h0 h4 h5 (fun k hk=>(h6 k hk).mono hz)
 | .fp h1 h2 h3 h4=>.fp (hz _ h1).1 ((hz _ h1).2.trans h2) h3 (h4.mono hz)
 | .emp h1 h2 h3=>.emp (hz _ h1).1 ((hz _ h1).2.trans h2) h3
 | .nilp=>.nilp
 | .nilf=>.nilf
 | .nilm=>.nilm
theorem PRs.mono {S S':St} {Z Z':Nat→Prop} (hz:ZLe E S Z S' Z') {p:List PV} {v:List Value}:PRs E S Z p v→PRs E S' Z' p v
 | .nil=>.nil
 | .cons h hl=>.cons (h.mono hz) (hl.mono hz)
end
inductive AV where
 | p (x:PV)
 | agg (cs:List AV)
 | ref (i off:Nat)
 | el (i sz k off:Nat)
 | sl (i sz off n cap:Nat) (ex:Nat)
 | fn (f:FuncId) (first cap:List AV)
 | map (i:Nat)
 | tup (vs:List AV)
 | yld (l:Nat)
 | acc (nb:Bool) (i sz n:Nat)
 | lit (b:Bool)
 | junk
abbrev Nm:=Nat→Option Nat
mutual
inductive VR (E:Env) (S:St) (Z:Nat→Prop) (j:Nm):AV→Value→Prop
 | p {x:PV} {v:Value} (h:PR E S Z x v):VR E S Z j (.p x) v
 | agg {cs:List AV} {vs:Array Value} (hs:vs.toList.all scalar=true) (h:VRs E S Z j cs vs.toList):VR E S Z j (.agg cs) (.agg vs)
 | ref {i off b:Nat} (h:j i=some b):VR E S Z j (.ref i off) (.pointer (some ⟨b,off,none⟩))
 | el {i sz k off b:Nat} (h:j i=some b):VR E S Z j (.el i sz k off) (.pointer (some ⟨b,k*sz+off,none⟩))
 | sl {i sz off n cap b:Nat} {ex:Nat} (h:j i=some b):VR E S Z j (.sl i sz off n cap ex) (.slice (some ⟨b,off*sz,bif Nat.beq ex 0 then some 0 else none⟩) n cap)
 | fn {f:FuncId} {first cap:List AV} {a b:Array Value} (ha:VRs E S Z j first a.toList) (hb:VRs E S Z j cap b.toList):VR E S Z j (.fn f first cap) (.func (.func f) a b)
 | map {i b:Nat} (h:j i=some b):VR E S Z j (.map i) (.map (some b))
 | tup {vs:List AV} {ws:Array Value} (h:VRs E S Z j vs ws.toList):VR E S Z j (.tup vs) (.tuple ws)
 | yld {i b:Nat} (h:j i=some b):VR E S Z j (.yld i) (.func (.yield b) #[] #[])
 | accN {i sz:Nat}:VR E S Z j (.acc true i sz 0) (.slice none 0 0)
 | accE {i sz b o:Nat} {cs:List Value} {t:TypeId} (hz:Z b) (hc:rdc E S b=some (cs,t)) (ho:o≤cs.length):VR E S Z j (.acc false i sz 0) (.slice (some ⟨b,o,none⟩) 0 0)
 | accC {nb:Bool} {i sz n b:Nat} (h:j i=some b):VR E S Z j (.acc nb i sz (n+1)) (.slice (some ⟨b,0,some 0⟩) (n+1) (n+1))
 | lit (b:Bool):VR E S Z j (.lit b) (.bool b)
 | junk (v:Value):VR E S Z j .junk v
inductive VRs (E:Env) (S:St) (Z:Nat→Prop) (j:Nm):List AV→List Value→Prop
 | nil:VRs E S Z j [] []
 | cons {a:AV} {v:Value} {as:List AV} {vs:List Value} (h:VR E S Z j a v) (hl:VRs E S Z j as vs):VRs E S Z j (a::as) (v::vs)
end
noncomputable def AV.only (g:Nat→Bool) (a:AV):Bool:=AV.rec (motive_1:=fun _=>Bool) (motive_2:=fun _=>Bool)
 (fun _=>true) (fun _ ih=>ih) (fun i _=>g i) (fun i _ _ _=>g i) (fun i _ _ _ _ _=>g i) (fun _ _ _ ia ib=>ia&&ib) (fun i=>g i) (fun _ ih=>ih) (fun i=>g i) (fun _ i _ _=>g i) (fun _=>true) true true (fun _ _ ia il=>ia&&il) a
noncomputable def z06 (g:Nat→Bool) (l:List AV):Bool:=AV.rec_1 (motive_1:=fun _=>Bool) (motive_2:=fun _=>Bool)
 (fun _=>true) (fun _ ih=>ih) (fun i _=>g i) (fun i _ _ _=>g i) (fun i _ _ _ _ _=>g i) (fun _ _ _ ia ib=>ia&&ib) (fun i=>g i) (fun _ ih=>ih) (fun i=>g i) (fun _ i _ _=>g i) (fun _=>true) true true (fun _ _ ia il=>ia&&il) l
theorem za2 (g:Nat→Bool) (f:FuncId) (a b:List AV):AV.only g (.fn f a b)=(z06 g a&&z06 g b):=rfl
theorem z6g (g:Nat→Bool) (a:AV) (l:List AV):z06 g (a::l)=(a.only g&&z06 g l):=rfl
noncomputable def AV.ren (r:Nat→Nat) (a:AV):AV:=AV.rec (motive_1:=fun _=>AV) (motive_2:=fun _=>List AV)
 (fun x=>.p x) (fun _ ih=>.agg ih) (fun i o=>.ref (r i) o) (fun i s k o=>.el (r i) s k o) (fun i s o n c e=>.sl (r i) s o n c e) (fun f _ _ ia ib=>.fn f ia ib) (fun i=>.map (r i)) (fun _ ih=>.tup ih) (fun i=>.yld (r i)) (fun nb i s n=>.acc nb (r i) s n) (fun b=>.lit b) .junk [] (fun _ _ ia il=>ia::il) a
noncomputable def z0N (r:Nat→Nat) (l:List AV):List AV:=AV.rec_1 (motive_1:=fun _=>AV) (motive_2:=fun _=>List AV)
 (fun x=>.p x) (fun _ ih=>.agg ih) (fun i o=>.ref (r i) o) (fun i s k o=>.el (r i) s k o) (fun i s o n c e=>.sl (r i) s o n c e) (fun f _ _ ia ib=>.fn f ia ib) (fun i=>.map (r i)) (fun _ ih=>.tup ih) (fun i=>.yld (r i)) (fun nb i s n=>.acc nb (r i) s n) (fun b=>.lit b) .junk [] (fun _ _ ia il=>ia::il) l
theorem zgE (r:Nat→Nat) (l:List AV):AV.ren r (.agg l) = .agg (z0N r l):=rfl
theorem zgD (r:Nat→Nat) (l:List AV):AV.ren r (.tup l) = .tup (z0N r l):=rfl
theorem zjN (r:Nat→Nat) (f:FuncId) (a b:List AV):AV.ren r (.fn f a b) = .fn f (z0N r a) (z0N r b):=rfl
theorem zcR (r:Nat→Nat) (a:AV) (l:List AV):z0N r (a::l)=a.ren r::z0N r l:=rfl
mutual
theorem VR.ren {S S':St} {Z Z':Nat→Prop} {j j':Nm} {g:Nat→Bool} {r:Nat→Nat} (hz:ZLe E S Z S' Z') (hj:∀ i b,g i=true→j i=some b→j' (r i)=some b) {a:AV} {v:Value}:VR E S Z j a v→a.only g=true→VR E S' Z' j' (a.ren r) v
 | .p h,_=>.p (h.mono hz)
 | .agg hs h,ho=>.agg hs (h.ren hz hj ho)
 | .ref h,ho=>.ref (hj _ _ ho h)
 | .el h,ho=>.el (hj _ _ ho h)
 | .sl h,ho=>.sl (hj _ _ ho h)
 | .fn ha hb,ho=>.fn (ha.ren hz hj (Bool.and_eq_true_iff.1 ho).1) (hb.ren hz hj (Bool.and_eq_true_iff.1 ho).2)
 | .map h,ho=>.map (hj _ _ ho h)
 | .tup h,ho=>.tup (h.ren hz hj ho)
 | .yld h,ho=>.yld (hj _ _ ho h)
 | .accN,_=>.accN
 | .accE h1 h2 h3,_=>.accE (hz _ h1).1 ((hz _ h1).2.trans h2) h3
 | .accC h,ho=>.accC (hj _ _ ho h)
 | .lit b,_=>.lit b
 | .junk v,_=>.junk v
theorem VRs.ren {S S':St} {Z Z':Nat→Prop} {j j':Nm} {g:Nat→Bool} {r:Nat→Nat} (hz:ZLe E S Z S' Z') (hj:∀ i b,g i=true→j i=some b→j' (r i)=some b) {a:List AV} {v:List Value}:VRs E S Z j a v→z06 g a=true→VRs E S' Z' j' (z0N r a) v
 | .nil,_=>.nil
 | .cons h hl,ho=>.cons (h.ren hz hj (Bool.and_eq_true_iff.1 ho).1) (hl.ren hz hj (Bool.and_eq_true_iff.1 ho).2)
end
mutual
theorem VR.mono {S S':St} {Z Z':Nat→Prop} {j j':Nm} {g:Nat→Bool} (hz:ZLe E S Z S' Z') (hj:∀ i b,g i=true→j i=some b→j' i=some b) {a:AV} {v:Value}:VR E S Z j a v→a.only g=true→VR E S' Z' j' a v
 | .p h,_=>.p (h.mono hz)
 | .agg hs h,ho=>.agg hs (h.mono hz hj ho)
 | .ref h,ho=>.ref (hj _ _ ho h)
 | .el h,ho=>.el (hj _ _ ho h)
 | .sl h,ho=>.sl (hj _ _ ho h)
 | .fn ha hb,ho=>.fn (ha.mono hz hj (Bool.and_eq_true_iff.1 ho).1) (hb.mono hz hj (Bool.and_eq_true_iff.1 ho).2)
 | .map h,ho=>.map (hj _ _ ho h)
 | .tup h,ho=>.tup (h.mono hz hj ho)
 | .yld h,ho=>.yld (hj _ _ ho h)
 | .accN,_=>.accN
 | .accE h1 h2 h3,_=>.accE (hz _ h1).1 ((hz _ h1).2.trans h2) h3
 | .accC h,ho=>.accC (hj _ _ ho h)
 | .lit b,_=>.lit b
 | .junk v,_=>.junk v
theorem VRs.mono {S S':St} {Z Z':Nat→Prop} {j j':Nm} {g:Nat→Bool} (hz:ZLe E S Z S' Z') (hj:∀ i b,g i=true→j i=some b→j' i=some b) {a:List AV} {v:List Value}:VRs E S Z j a v→z06 g a=true→VRs E S' Z' j' a v
 | .nil,_=>.nil
 | .cons h hl,ho=>.cons (h.mono hz hj (Bool.and_eq_true_iff.1 ho).1) (hl.mono hz hj (Bool.and_eq_true_iff.1 ho).2)
end
mutual
theorem VR.mono' {S S':St} {Z Z':Nat→Prop} {j j':Nm} (hz:ZLe E S Z S' Z') (hj:∀ i b,j i=some b→j' i=some b) {a:AV} {v:Value}:VR E S Z j a v→VR E S' Z' j' a v
 | .p h=>.p (h.mono hz)
 | .agg hs h=>.agg hs (h.mono' hz hj)
 | .ref h=>.ref (hj _ _ h)
 | .el h=>.el (hj _ _ h)
 | .sl h=>.sl (hj _ _ h)
 | .fn ha hb=>.fn (ha.mono' hz hj) (hb.mono' hz hj)
 | .map h=>.map (hj _ _ h)
 | .tup h=>.tup (h.mono' hz hj)
 | .yld h=>.yld (hj _ _ h)
 | .accN=>.accN
 | .accE h1 h2 h3=>.accE (hz _ h1).1 ((hz _ h1).2.trans h2) h3
 | .accC h=>.accC (hj _ _ h)
 | .lit b=>.lit b
 | .junk v=>.junk v
theorem VRs.mono' {S S':St} {Z Z':Nat→Prop} {j j':Nm} (hz:ZLe E S Z S' Z') (hj:∀ i b,j i=some b→j' i=some b) {a:List AV} {v:List Value}:VRs E S Z j a v→VRs E S' Z' j' a v
 | .nil=>.nil
 | .cons h hl=>.cons (h.mono' hz hj) (hl.mono' hz hj)
end
theorem PRs.length {S:St} {Z:Nat→Prop}:∀ {ps:List PV} {vs:List Value},PRs E S Z ps vs→ps.length=vs.length
 | _,_,.nil=>rfl
 | _,_,.cons _ hl=>by simp [hl.length]
theorem VRs.length {S:St} {Z:Nat→Prop} {j:Nm}:∀ {ps:List AV} {vs:List Value},VRs E S Z j ps vs→ps.length=vs.length
 | _,_,.nil=>rfl
 | _,_,.cons _ hl=>by simp [hl.length]
theorem PRs.get {S:St} {Z:Nat→Prop}:∀ {ps:List PV} {vs:List Value},PRs E S Z ps vs→∀ {i:Nat} {p:PV},ps[i]? = some p→∃ v,vs[i]? = some v∧PR E S Z p v
 | _,_,.nil,i,p,h=>by simp at h
 | _,_,.cons h hl,0,p,hp=>by simp at hp;subst hp;exact ⟨_,rfl,h⟩
 | _,_,.cons h hl,i+1,p,hp=>by simp at hp;obtain ⟨v,h1,h2⟩:=hl.get hp;exact ⟨v,by simpa using h1,h2⟩
theorem VRs.get {S:St} {Z:Nat→Prop} {j:Nm}:∀ {ps:List AV} {vs:List Value},VRs E S Z j ps vs→∀ {i:Nat} {p:AV},ps[i]? = some p→∃ v,vs[i]? = some v∧VR E S Z j p v
 | _,_,.nil,i,p,h=>by simp at h
 | _,_,.cons h hl,0,p,hp=>by simp at hp;subst hp;exact ⟨_,rfl,h⟩
 | _,_,.cons h hl,i+1,p,hp=>by simp at hp;obtain ⟨v,h1,h2⟩:=hl.get hp;exact ⟨v,by simpa using h1,h2⟩
theorem PRs.take {S:St} {Z:Nat→Prop}:∀ {ps:List PV} {vs:List Value},PRs E S Z ps vs→∀ (i:Nat),PRs E S Z (ps.take i) (vs.take i)
 | _,_,.nil,i=>by simp;exact .nil
 | _,_,.cons h hl,0=>.nil
 | _,_,.cons h hl,i+1=>.cons h (hl.take i)
theorem PRs.drop {S:St} {Z:Nat→Prop}:∀ {ps:List PV} {vs:List Value},PRs E S Z ps vs→∀ (i:Nat),PRs E S Z (ps.drop i) (vs.drop i)
 | _,_,.nil,i=>by simp;exact .nil
 | _,_,.cons h hl,0=>.cons h hl
 | _,_,.cons h hl,i+1=>hl.drop i
theorem PRs.append {S:St} {Z:Nat→Prop}:∀ {ps:List PV} {vs:List Value},PRs E S Z ps vs→∀ {qs:List PV} {ws:List Value},PRs E S Z qs ws→PRs E S Z (ps++qs) (vs++ws)
 | _,_,.nil,_,_,h=>h
 | _,_,.cons h hl,_,_,k=>.cons h (hl.append k)
theorem VRs.take {S:St} {Z:Nat→Prop} {j:Nm}:∀ {ps:List AV} {vs:List Value},VRs E S Z j ps vs→∀ (i:Nat),VRs E S Z j (ps.take i) (vs.take i)
 | _,_,.nil,i=>by simp;exact .nil
 | _,_,.cons h hl,0=>.nil
 | _,_,.cons h hl,i+1=>.cons h (hl.take i)
theorem VRs.drop {S:St} {Z:Nat→Prop} {j:Nm}:∀ {ps:List AV} {vs:List Value},VRs E S Z j ps vs→∀ (i:Nat),VRs E S Z j (ps.drop i) (vs.drop i)
 | _,_,.nil,i=>by simp;exact .nil
 | _,_,.cons h hl,0=>.cons h hl
 | _,_,.cons h hl,i+1=>hl.drop i
theorem VRs.append {S:St} {Z:Nat→Prop} {j:Nm}:∀ {ps:List AV} {vs:List Value},VRs E S Z j ps vs→∀ {qs:List AV} {ws:List Value},VRs E S Z j qs ws→VRs E S Z j (ps++qs) (vs++ws)
 | _,_,.nil,_,_,h=>h
 | _,_,.cons h hl,_,_,k=>.cons h (hl.append k)
theorem PRs.toV {S:St} {Z:Nat→Prop} {j:Nm}:∀ {ps:List PV} {vs:List Value},PRs E S Z ps vs→VRs E S Z j (ps.map .p) vs
 | _,_,.nil=>.nil
 | _,_,.cons h hl=>.cons (.p h) hl.toV
theorem PR.scalar {S:St} {Z:Nat→Prop} {p:PV} {v:Value} (h:PR E S Z p v):scalar v=true:=by cases h <;> rfl
theorem PRs.scalars {S:St} {Z:Nat→Prop}:∀ {ps:List PV} {vs:List Value},PRs E S Z ps vs→vs.all Proofs.YtdpipdniklognaaGreat.scalar=true
 | _,_,.nil=>rfl
 | _,_,.cons h hl=>by simp only [List.all_cons,h.scalar,hl.scalars,Bool.and_self]
def AV.flat:AV→Bool
 | .agg _=>false
 | .tup _=>false
 | .junk=>false
 | _=>true
theorem VR.scalar {S:St} {Z:Nat→Prop} {j:Nm} {a:AV} {v:Value} (h:VR E S Z j a v) (ha:a.flat=true):scalar v=true:=by
 cases h with
 | p h=>exact h.scalar
 | agg _ _=>cases ha
 | tup _=>cases ha
 | junk _=>cases ha
 | _=>rfl
theorem ZLe.refl (S:St) (Z:Nat→Prop):ZLe E S Z S Z:=fun _ h=>⟨h,rfl⟩
abbrev VK:=List (Nat×AV)
def ak:VK→Nat→Option AV
 | [],_=>none
 | (s,v)::l,t=>bif Nat.beq s t then some v else ak l t
inductive VB where
 | cells (cs:List AV) (t:TypeId)
 | arr (n sz:Nat) (f:Nat→List PV) (t:TypeId)
 | loop (st:LoopState) (pd:Option Code) (G:VK) (N:Nat) (ps:List Tmp) (asg body:Code)
 | acc (n sz:Nat) (f:Nat→List PV) (t:TypeId)
 | mapI (f:Int→Option Int)
 | hdr (n:Nat) (p:Nat→PV) (xs:List (Nat×AV)) (t:TypeId)
 | oarr (w:Bool) (n sz:Nat) (f:Nat→List PV) (t:TypeId)
 | mapA (m:Option Nat) (p:Nat→Option PV) (xs:List (Nat×AV))
 | itr (o:Option Yg)
def z5L (p:Nat→PV):List (Nat×AV)→Nat→AV
 | [],k=>.p (p k)
 | (i,a)::l,k=>bif Nat.beq i k then a else z5L p l k
abbrev VS:=List (Nat×VB)
def bk:VS→Nat→Option VB
 | [],_=>none
 | (s,v)::l,t=>bif Nat.beq s t then some v else bk l t
def FRR (E:Env) (S:St) (Z:Nat→Prop) (j:Nm) (F:VK) (T:Fr):Prop:=∀ t a,ak F t=some a→∃ v,T.t.get t=some v∧VR E S Z j a v
def zci (p:Nat→Option PV):List (Nat×AV)→Nat→Bool
 | [],k=>(p k).isSome
 | (i,_)::l,k=>bif Nat.beq i k then true else zci p l k
def zqx (p:Nat→Option PV):Nat→PV:=fun k=>(p k).getD .nilp
def zrU:Option Yg→Yg
 | none=>.nilIter
 | some o=>o
def z4Q (l:List (Nat×Value)):List (Value×Value):=l.map fun p=>(.int .i64 (Int.ofNat p.1),p.2)
def z1A (k:Nat):List (Nat×Value)→Option Value
 | []=>none
 | p::l=>bif Nat.beq p.1 k then some p.2 else z1A k l
def z90 (l:List (Int×Int)):List (Value×Value):=l.map fun p=>(.int .i64 p.1,.int .i64 p.2)
def zdt (k:Int):List (Int×Int)→Option Int
 | []=>none
 | p::l=>bif k==p.1 then some p.2 else zdt k l
def BR (E:Env) (S:St) (Z:Nat→Prop) (j:Nm) (b:Nat):VB→Prop
 | .cells cs t=>∃ vs,S.cells b=some (vs,t)∧vs.all scalar=true∧VRs E S Z j cs vs
 | .arr n sz f t=>∃ vs,∃ g:Nat→List Value,S.cells b=some (vs,t)∧vs.length=n*sz∧(∀ k,k<n→cut vs (k*sz) sz=some (g k))∧∀ k,k<n→PRs E S Z (f k) (g k)
 | .loop st pd G N ps asg body=>∃ T,S.heap.get b=some (.loop st pd T ps asg body)∧T.n=N∧FRR E S Z j G T
 | .acc n sz f t=>∃ vs,∃ g:Nat→List Value,S.cells b=some (vs,t)∧vs.length=n*sz∧(∀ k,k<n→cut vs (k*sz) sz=some (g k))∧∀ k,k<n→PRs E S Z (f k) (g k)
 | .mapI f=>∃ l,S.heap.get b=some (.map (z90 l))∧∀ k,zdt k l=f k
 | .hdr n p xs t=>∃ vs,S.cells b=some (vs,t)∧vs.length=n∧vs.all scalar=true∧∀ k,k<n→∃ v,vs[k]? = some v∧VR E S Z j (z5L p xs k) v
 | .oarr _ n sz f t=>∃ vs,∃ g:Nat→List Value,S.cells b=some (vs,t)∧vs.length=n*sz∧(∀ k,k<n→cut vs (k*sz) sz=some (g k))∧∀ k,k<n→PRs E S Z (f k) (g k)
 | .mapA m p xs=>∃ l,S.heap.get b=some (.map (z4Q l))∧((l.map Prod.fst).Nodup∧∀ n,m=some n→l.length=n)∧∀ k,(z1A k l).isSome=zci p xs k∧∀ v,z1A k l=some v→VR E S Z j (z5L (zqx p) xs k) v
 | .itr o=>S.heap.get b=some (zrU o)
def VB.void:VB→Prop
 | .acc n _ _ _=>n=0
 | .oarr w _ _ _ _=>w=false
 | _=>False
structure SR (E:Env) (S:St) (Z:Nat→Prop) (j:Nm) (L:VS):Prop where
 zlt:∀ b,Z b→b<S.size
 jlt:∀ i b,j i=some b→b<S.size∧¬ Z b
 inj:∀ i i' b,j i=some b→j i'=some b→i=i'
 dom:∀ i,bk L i=none→j i=none
 blk':∀ i vb,bk L i=some vb→vb.void∨∃ b,j i=some b∧BR E S Z j b vb
 rom:∀ b c,E.rom.get b=some c→b<S.size∧∀ i,j i≠some b
theorem SR.blk {E:Env} {S:St} {Z:Nat→Prop} {j:Nm} {L:VS} (h:SR E S Z j L) (i:Nat) (vb:VB) (hi:bk L i=some vb) (hv:¬ vb.void):∃ b,j i=some b∧BR E S Z j b vb:=(h.blk' i vb hi).resolve_left hv
structure Ex (S:St) (Z:Nat→Prop) (j:Nm) (S':St) (Z':Nat→Prop) (j':Nm):Prop where
 size:S.size≤S'.size
 old:∀ b,b<S.size→(∀ i,j i≠some b)→S'.heap.get b=S.heap.get b
 zz:∀ b,Z b→Z' b
 zn:∀ b,Z' b→Z b∨S.size≤b∨∃ i,j i=some b
 jn:∀ i b,j' i=some b→S.size≤b∨∃ i',j i'=some b
 low:S'.low≤S.low∧∀ m,m≤S.low→m≤S.size→(∀ i b,j i=some b→m≤b)→m≤S'.low
theorem Ex.refl (S:St) (Z:Nat→Prop) (j:Nm):Ex S Z j S Z j :=
 ⟨ym _,fun _ _ _=>rfl,fun _ h=>h,fun _ h=>.inl h,fun i _ h=>.inr ⟨i,h⟩,ym _,fun _ h _ _=>h⟩
theorem Ex.trans {S S1 S2:St} {Z Z1 Z2:Nat→Prop} {j j1 j2:Nm} (h:Ex S Z j S1 Z1 j1) (k:Ex S1 Z1 j1 S2 Z2 j2):Ex S Z j S2 Z2 j2:=by
 refine ⟨yn h.size k.size,fun b hb hn=>?_,fun b hb=>k.zz b (h.zz b hb),fun b hb=>?_,fun i b hb=>?_,yn k.low.1 h.low.1,fun m h1 h2 h3=>?_⟩
 ·rw [k.old b (yo hb h.size) (fun i hi=>?_),h.old b hb hn]
  rcases h.jn i b hi with h1 | ⟨i',h1⟩
  ·omega
  ·exact hn i' h1
 ·rcases k.zn b hb with h1 | h1 | ⟨i,h1⟩
  ·exact h.zn b h1
  ·exact .inr (.inl (yn h.size h1))
  ·exact .inr (h.jn i b h1)
 ·rcases k.jn i b hb with h1 | ⟨i',h1⟩
  ·exact .inl (yn h.size h1)
  ·exact h.jn i' b h1
 ·refine k.low.2 m (h.low.2 m h1 h2 h3) (yn h2 h.size) (fun i b hb=>?_)
  rcases h.jn i b hb with h4 | ⟨i',h4⟩
  ·omega
  ·exact h3 i' b h4
theorem Ex.zle {S S':St} {Z Z':Nat→Prop} {j j':Nm} {L:VS} (h:Ex S Z j S' Z' j') (hs:SR E S Z j L):ZLe E S Z S' Z':=fun b hb =>
 ⟨h.zz b hb,by unfold rdc St.cells;rw [h.old b (hs.zlt b hb) fun i hi=>(hs.jlt i b hi).2 hb]⟩
theorem FRR.mono' {S S':St} {Z Z':Nat→Prop} {j j':Nm} {F:VK} {T:Fr} (h:FRR E S Z j F T) (hz:ZLe E S Z S' Z') (hj:∀ i b,j i=some b→j' i=some b):FRR E S' Z' j' F T:=fun t a ha=>by
 obtain ⟨v,h1,h2⟩:=h t a ha
 exact ⟨v,h1,h2.mono' hz hj⟩
theorem BR.mono {S S':St} {Z Z':Nat→Prop} {j j':Nm} {b:Nat} {vb:VB} (h:BR E S Z j b vb) (hh:S'.heap.get b=S.heap.get b) (hz:ZLe E S Z S' Z') (hj:∀ i b,j i=some b→j' i=some b):BR E S' Z' j' b vb:=by
 have hc:S'.cells b=S.cells b:=by unfold St.cells;rw [hh]
 cases vb with
 | cells cs t=>obtain ⟨vs,h1,h2,h3⟩:=h;exact ⟨vs,hc.trans h1,h2,h3.mono' hz hj⟩
 | arr n sz f t=>obtain ⟨vs,g,h1,h2,h3,h4⟩:=h;exact ⟨vs,g,hc.trans h1,h2,h3,fun k hk=>(h4 k hk).mono hz⟩
 | loop st pd G N ps asg body=>obtain ⟨T,h1,h2,h3⟩:=h;exact ⟨T,hh.trans h1,h2,h3.mono' hz hj⟩
 | acc n sz f t=>obtain ⟨vs,g,h1,h2,h3,h4⟩:=h;exact ⟨vs,g,hc.trans h1,h2,h3,fun k hk=>(h4 k hk).mono hz⟩
 | mapI f=>obtain ⟨l,h1,h2⟩:=h;exact ⟨l,hh.trans h1,h2⟩
 | hdr n p xs t =>
  obtain ⟨vs,h1,h2,h3,h4⟩:=h
  refine ⟨vs,hc.trans h1,h2,h3,fun k hk=>?_⟩
  obtain ⟨v,h5,h6⟩:=h4 k hk
  exact ⟨v,h5,h6.mono' hz hj⟩
 | oarr w n sz f t=>obtain ⟨vs,g,h1,h2,h3,h4⟩:=h;exact ⟨vs,g,hc.trans h1,h2,h3,fun k hk=>(h4 k hk).mono hz⟩
 | mapA m p xs =>
  obtain ⟨l,h1,h2,h3⟩:=h
  refine ⟨l,hh.trans h1,h2,fun k=>?_⟩
  obtain ⟨h4,h5⟩:=h3 k
  exact ⟨h4,fun v hv=>(h5 v hv).mono' hz hj⟩
 | itr o=>exact hh.trans h
theorem FRR.put {S:St} {Z:Nat→Prop} {j:Nm} {F:VK} {T:Fr} (h:FRR E S Z j F T) {d:Nat} (hd:Nat.blt d T.n=true) {a:AV} {v:Value} (hv:VR E S Z j a v):∃ T',T.put (some d) v=some T'∧T'.n=T.n∧FRR E S Z j ((d,a)::F) T':=by
 refine ⟨⟨T.n,T.t.set d v⟩,?_,rfl,fun t u hu=>?_⟩
 ·show gd (Nat.blt d T.n) _=_
  rw [hd];rfl
 ·show ∃ w,(T.t.set d v).get t=some w∧_
  rw [Tr.get_set]
  simp only [ak,Tr.beq_def] at hu
  by_cases e:t=d
  ·subst e
   simp at hu;subst hu
   exact ⟨v,by simp,hv⟩
  ·rw [if_neg e]
   exact h t u (by simpa [show ¬ d=t from fun e'=>e e'.symm] using hu)
end
section
inductive VD where
 | int (k:IntKind)
 | str
 | bool
 | ptr
 | func
 | map
 | mapI
 | mapA (z:PV)
 | slice (elem esz:Nat)
 | arr (n esz:Nat) (agg:Bool)
 | struct (ints:Bool) (fs:List (Nat×Nat×Bool))
 | other
structure VT where
 size:Nat
 agg:Bool
 d:VD
 zero:List PV
abbrev Tab:=List (Nat×VT)
def z3O:Tab→Nat→Option VT
 | [],_=>none
 | (s,x)::l,t=>bif Nat.beq s t then some x else z3O l t
def zOk:PV→Value→Bool
 | .int k n,.int k' n'=>decide (k=k')&&decide (n=n')
 | .bool a,.bool b=>a==b
 | .str s,.string s'=>decide (s=s')
 | .lst _ true 0 _,.slice none 0 0=>true
 | .nilp,.pointer none=>true
 | .nilf,.nilFunc=>true
 | .nilm,.map none=>true
 | _,_=>false
def zmq:List PV→List Value→Bool
 | [],[]=>true
 | p::ps,v::vs=>zOk p v&&zmq ps vs
 | _,_=>false
noncomputable def zqg (E:Env) (e sz:Nat):Bool:=Option.rec false (fun (x:LTy)=>Nat.beq x.size sz&&(Nat.ble x.bytes 4096&&(Nat.blt 0 x.size&&Nat.beq x.zero.cells.size x.size))) (E.ti.get e)
noncomputable def zrI (E:Env) (e:Nat) (a:Bool):Bool:=Option.rec false (fun (x:LTy)=>x.agg==a) (E.ti.get e)
noncomputable def z1y (E:Env):List (Nat×Nat×Bool)→List Field→Bool
 | [],[]=>true
 | q::qs,f::fs=>Nat.beq f.offset q.1&&(Option.rec false (fun (x:LTy)=>Nat.beq x.size q.2.1&&x.agg==q.2.2) (E.ti.get f.type)&&z1y E qs fs)
 | _,_=>false
def isInt:TypeDesc→Bool
 | .int .i64=>true
 | _=>false
noncomputable def zce (E:Env):List Field→Nat→Bool
 | [],_=>true
 | f::fs,i=>Nat.beq f.offset i&&(Option.rec false (fun (x:LTy)=>isInt x.desc) (E.ti.get f.type)&&zce E fs (i+1))
def ziu:TypeDesc→Bool
 | .int .i64=>true
 | _=>false
def znC:Value→Bool
 | .int .i64 n=>decide (n=0)
 | _=>false
noncomputable def kOk (E:Env) (t:Nat):Bool:=Option.rec false (fun (x:LTy)=>ziu x.desc) (E.ti.get t)
noncomputable def zrx (E:Env) (t:Nat) (z:PV):Bool:=Option.rec false (fun (x:LTy)=>zOk z x.zero) (E.ti.get t)
noncomputable def zoB (E:Env) (t:Nat):Bool:=Option.rec false (fun (x:LTy)=>znC x.zero) (E.ti.get t)
noncomputable def dOk (E:Env) (i:LTy):VD→Bool
 | .int k=>match i.desc with
  | .int k'=>decide (k=k')
  | _=>false
 | .str=>match i.desc with
  | .string=>true
  | _=>false
 | .bool=>match i.desc with
  | .bool=>true
  | _=>false
 | .ptr=>match i.desc with
  | .pointer _=>true
  | _=>false
 | .func=>match i.desc with
  | .func _ _ _=>true
  | _=>false
 | .map=>match i.desc with
  | .map _ _=>true
  | _=>false
 | .mapI=>match i.desc with
  | .map k e=>kOk E k&&zoB E e
  | _=>false
 | .mapA z=>match i.desc with
  | .map k e=>kOk E k&&zrx E e z
  | _=>false
 | .slice e sz=>match i.desc with
  | .slice e'=>Nat.beq e e'&&zqg E e sz
  | _=>false
 | .arr n sz a=>match i.desc with
  | .array m e=>Nat.beq n m&&(zqg E e sz&&zrI E e a)
  | _=>false
 | .struct ints fs=>match i.desc with
  | .struct gs=>z1y E fs gs.toList&&(!ints||(i.plain&&zce E gs.toList 0))
  | _=>false
 | .other=>true
noncomputable def zqo (E:Env) (t:Nat) (x:VT):Bool:=Option.rec false (fun (i:LTy)=>Nat.beq i.size x.size&&(i.agg==x.agg&&(zmq x.zero i.zero.cells.toList&&dOk E i x.d))) (E.ti.get t)
noncomputable def zM (E:Env) (tb:Tab):Bool:=tb.all fun p=>zqo E p.1 p.2
theorem zhl {E:Env}:∀ {tb:Tab} {t:Nat} {x:VT},zM E tb=true→z3O tb t=some x→zqo E t x=true
 | [],t,x,_,h=>by cases h
 | (s,y)::l,t,x,hT,h=>by
  simp only [zM,List.all_cons,yw] at hT
  simp only [z3O] at h
  by_cases e:s=t
  ·subst e;simp at h;subst h;exact hT.1
  ·rw [show Nat.beq s t=false by rw [Tr.beq_def];simpa using e] at h
   exact zhl (tb:=l) hT.2 h
structure VTok (E:Env) (t:Nat) (x:VT) (i:LTy):Prop where
 get:E.ti.get t=some i
 size:i.size=x.size
 agg:i.agg=x.agg
 zero:zmq x.zero i.zero.cells.toList=true
 d:dOk E i x.d=true
theorem zN {E:Env} {tb:Tab} {t:Nat} {x:VT} (hT:zM E tb=true) (h:z3O tb t=some x):∃ i,VTok E t x i:=by
 have h1:=zhl hT h
 unfold zqo at h1
 cases hi:E.ti.get t with
 | none=>rw [hi] at h1;cases h1
 | some i =>
  rw [hi] at h1
  simp only [yw] at h1
  obtain ⟨h2,h3,h4,h5⟩:=h1
  exact ⟨i,hi,zm h2,by simpa using h3,h4,h5⟩
structure Elok (E:Env) (e sz:Nat) (x:LTy):Prop where
 get:E.ti.get e=some x
 size:x.size=sz
 bytes:Nat.ble x.bytes 4096=true
 pos:0<x.size
 zero:Nat.beq x.zero.cells.size x.size=true
theorem zpH {E:Env} {e sz:Nat} (h:zqg E e sz=true):∃ x,Elok E e sz x:=by
 unfold zqg at h
 cases hi:E.ti.get e with
 | none=>rw [hi] at h;cases h
 | some x =>
  rw [hi] at h
  simp only [yw] at h
  obtain ⟨h2,h3,h4,h5⟩:=h
  exact ⟨x,hi,zm h2,h3,z0w h4,h5⟩
theorem z5O {E:Env}:∀ {qs:List (Nat×Nat×Bool)} {fs:List Field},z1y E qs fs=true→∀ {i:Nat} {q:Nat×Nat×Bool},qs[i]? = some q →
  ∃ f x,fs[i]? = some f∧f.offset=q.1∧E.ti.get f.type=some x∧x.size=q.2.1∧x.agg=q.2.2
 | [],[],_,i,q,h=>by simp at h
 | [],_::_,h,_,_,_=>by simp [z1y] at h
 | _::_,[],h,_,_,_=>by simp [z1y] at h
 | q0::qs,f0::fs,hk,i,q,h=>by
  simp only [z1y,yw] at hk
  obtain ⟨h1,h2,h3⟩:=hk
  cases i with
  | zero =>
   simp at h;subst h
   cases hx:E.ti.get f0.type with
   | none=>rw [hx] at h2;cases h2
   | some x =>
    rw [hx] at h2
    simp only [yw] at h2
    exact ⟨f0,x,by simp,zm h1,hx,zm h2.1,by simpa using h2.2⟩
  | succ i =>
   simp at h
   obtain ⟨f,x,h4,h5⟩:=z5O h3 h
   exact ⟨f,x,by simpa using h4,h5⟩
theorem zec {E:Env} {S:St} {Z:Nat→Prop} {p:PV} {v:Value} (h:zOk p v=true):PR E S Z p v:=by
 unfold zOk at h
 split at h
 ·simp only [yw,decide_eq_true_eq] at h;obtain ⟨rfl,rfl⟩:=h;exact .int _ _
 ·simp at h;subst h;exact .bool _
 ·simp at h;subst h;exact .str _
 ·exact .nil _ _
 ·exact .nilp
 ·exact .nilf
 ·exact .nilm
 ·cases h
theorem z2f {E:Env} {S:St} {Z:Nat→Prop}:∀ {ps:List PV} {vs:List Value},zmq ps vs=true→PRs E S Z ps vs
 | [],[],_=>.nil
 | [],_::_,h=>by simp [zmq] at h
 | _::_,[],h=>by simp [zmq] at h
 | p::ps,v::vs,h=>by
  simp only [zmq,yw] at h
  exact .cons (zec h.1) (z2f h.2)
def cvp:Value→Option PV
 | .int k n=>some (.int k n)
 | .bool b=>some (.bool b)
 | .string s=>some (.str s)
 | .slice none 0 0=>some (.lst 0 true 0 fun _=>[])
 | .pointer none=>some .nilp
 | .nilFunc=>some .nilf
 | .map none=>some .nilm
 | _=>none
def cvs:List Value→Option (List AV)
 | []=>some []
 | v::vs=>match cvp v with
  | none=>none
  | some p=>match cvs vs with
   | none=>none
   | some ps=>some (.p p::ps)
def cv:Value→Option AV
 | .agg cs=>match cvs cs.toList with
  | none=>none
  | some l=>some (.agg l)
 | v=>match cvp v with
  | none=>none
  | some p=>some (.p p)
section
variable {E:Env} {S:St} {Z:Nat→Prop} {j:Nm}
theorem zmd {v:Value} {p:PV} (h:cvp v=some p):PR E S Z p v:=by
 unfold cvp at h
 split at h <;> cases h
 ·exact .int _ _
 ·exact .bool _
 ·exact .str _
 ·exact .nil _ _
 ·exact .nilp
 ·exact .nilf
 ·exact .nilm
theorem zmc:∀ {vs:List Value} {l:List AV},cvs vs=some l→VRs E S Z j l vs∧vs.all scalar=true
 | [],l,h=>by cases h;exact ⟨.nil,rfl⟩
 | v::vs,l,h=>by
  simp only [cvs] at h
  split at h
  ·cases h
  ·rename_i p hp
   split at h
   ·cases h
   ·rename_i ps hps
    cases h
    obtain ⟨h1,h2⟩:=zmc hps
    have h3:=zmd (E:=E) (S:=S) (Z:=Z) hp
    exact ⟨.cons (.p h3) h1,by simp only [List.all_cons,h3.scalar,h2,Bool.and_self]⟩
theorem zr2 {v:Value} {a:AV} (h:cv v=some a):VR E S Z j a v:=by
 unfold cv at h
 split at h
 ·split at h
  ·cases h
  ·rename_i l hl
   cases h
   obtain ⟨h1,h2⟩:=zmc (E:=E) (S:=S) (Z:=Z) (j:=j) hl
   exact .agg h2 h1
 ·split at h
  ·cases h
  ·rename_i p hp;cases h;exact .p (zmd hp)
end
def unl:AV→AV
 | .lit b=>.p (.bool b)
 | a=>a
def avr (F:VK):Operand→Option AV
 | .tmp t=>ak F t
 | .const (.bool b)=>some (.lit b)
 | .const v=>cv v
 | .func f=>some (.fn f [] [])
 | .global _=>none
def av (F:VK) (x:Operand):Option AV:=match avr F x with
 | some a=>some (unl a)
 | none=>none
def avs (F:VK):List Operand→Option (List AV)
 | []=>some []
 | x::xs=>match av F x with
  | none=>none
  | some a=>match avs F xs with
   | none=>none
   | some as=>some (a::as)
section
variable {E:Env} {S:St} {Z:Nat→Prop} {j:Nm} {F:VK} {T:Fr}
theorem VR.unl {a:AV} {v:Value} (h:VR E S Z j a v):VR E S Z j (unl a) v:=by
 cases h with
 | lit b=>exact .p (.bool b)
 | p h=>exact .p h
 | agg hs h=>exact .agg hs h
 | ref h=>exact .ref h
 | el h=>exact .el h
 | sl h=>exact .sl h
 | fn ha hb=>exact .fn ha hb
 | map h=>exact .map h
 | tup h=>exact .tup h
 | yld h=>exact .yld h
 | accN=>exact .accN
 | accE h1 h2 h3=>exact .accE h1 h2 h3
 | accC h=>exact .accC h
 | junk v=>exact .junk v
theorem FRR.evr (h:FRR E S Z j F T) {x:Operand} {a:AV} (hx:avr F x=some a):∃ v,T.ev x=some v∧VR E S Z j a v:=by
 cases x with
 | tmp t=>exact h t a hx
 | const v =>
  refine ⟨v,rfl,?_⟩
  unfold avr at hx
  split at hx
  ·rename_i e;cases e
  ·rename_i e;cases e;cases hx;exact .lit _
  ·rename_i e;cases e;exact zr2 hx
  ·rename_i e;cases e
  ·rename_i e;cases e
 | func f=>simp only [avr] at hx;cases hx;exact ⟨_,rfl,.fn .nil .nil⟩
 | global g=>simp only [avr] at hx;cases hx
theorem FRR.ev (h:FRR E S Z j F T) {x:Operand} {a:AV} (hx:av F x=some a):∃ v,T.ev x=some v∧VR E S Z j a v:=by
 unfold av at hx
 split at hx
 ·rename_i b hb
  cases hx
  obtain ⟨v,h1,h2⟩:=h.evr hb
  exact ⟨v,h1,h2.unl⟩
 ·cases hx
theorem FRR.evs (h:FRR E S Z j F T):∀ {xs:List Operand} {l:List AV},avs F xs=some l→∃ vs,T.evs xs=some vs∧VRs E S Z j l vs
 | [],l,hx=>by simp only [avs] at hx;cases hx;exact ⟨[],rfl,.nil⟩
 | x::xs,l,hx=>by
  simp only [avs] at hx
  split at hx
  ·cases hx
  ·rename_i a ha
   split at hx
   ·cases hx
   ·rename_i as has
    cases hx
    obtain ⟨v,h1,h2⟩:=h.ev ha
    obtain ⟨vs,h3,h4⟩:=h.evs has
    refine ⟨v::vs,?_,.cons h2 h4⟩
    show ob (T.ev x) _=_
    rw [h1]
    show ob (T.evs xs) _=_
    rw [h3];rfl
end
def inR (n:Int):Prop:= -9223372036854775808≤n∧n<9223372036854775808
def zh9 (op:BinOp) (a b:Int):Option (List Prop×PV):=match op with
 | .lss=>some ([],.bool (decide (a<b)))
 | .leq=>some ([],.bool (decide (a≤b)))
 | .gtr=>some ([],.bool (decide (b<a)))
 | .geq=>some ([],.bool (decide (b≤a)))
 | .eql=>some ([],.bool (a==b))
 | .neq=>some ([],.bool (!(a==b)))
 | .add=>some ([inR (a+b)],.int .i64 (a+b))
 | .sub=>some ([inR (a - b)],.int .i64 (a - b))
 | .mul=>some ([inR (a*b)],.int .i64 (a*b))
 | .rem=>some ([b≠0],.int .i64 (a.tmod b))
 | .quo=>some ([b≠0,inR (a.tdiv b)],.int .i64 (a.tdiv b))
 | .and=>match a,b with
  | .ofNat m,.ofNat k=>some ([m<9223372036854775808,k<9223372036854775808],.int .i64 (Int.ofNat (m &&& k)))
  | .ofNat m,.negSucc k=>some ([m<9223372036854775808,k<9223372036854775808],.int .i64 (Int.ofNat (m &&& (18446744073709551615 - k))))
  | _,_=>none
 | .or=>match a,b with
  | .ofNat m,.ofNat k=>some ([m<9223372036854775808,k<9223372036854775808],.int .i64 (Int.ofNat (m ||| k)))
  | _,_=>none
 | .andNot=>match a,b with
  | .ofNat m,.ofNat k=>some ([m<9223372036854775808,k<9223372036854775808],.int .i64 (Int.ofNat (m ^^^ (m &&& k))))
  | _,_=>none
 | .shl=>match a,b with
  | .ofNat m,.ofNat k=>some ([k<64,m <<< k<9223372036854775808],.int .i64 (Int.ofNat (m <<< k)))
  | _,_=>none
 | .shr=>match a,b with
  | .ofNat m,.ofNat k=>some ([k<64],.int .i64 (Int.ofNat (m >>> k)))
  | _,_=>none
 | _=>none
def zoH (op:BinOp) (a b:ByteArray):Option (List Prop×PV):=match op with
 | .eql=>some ([],.bool (a.toList==b.toList))
 | .neq=>some ([],.bool (!(a.toList==b.toList)))
 | _=>none
def zqr (op:BinOp) (x y:PV):Option (List Prop×PV):=match x,y with
 | .int .i64 a,.int .i64 b=>zh9 op a b
 | .int .u8 a,.int .u8 b=>match op with
  | .lss | .leq | .gtr | .geq | .eql | .neq=>zh9 op a b
  | _=>none
 | .int .u64 a,.int .u64 b=>match op with
  | .lss | .leq | .gtr | .geq | .eql | .neq=>zh9 op a b
  | _=>none
 | .str a,.str b=>zoH op a b
 | _,_=>none
def z7e:List AV→List AV→Option Bool
 | [],[]=>some true
 | .p (.int .i64 a)::l,.p (.int .i64 b)::m=>match z7e l m with
  | none=>none
  | some r=>some ((a==b)&&r)
 | _,_=>none
def veq (tb:Tab) (t:Nat) (x y:AV):Option Bool:=match z3O tb t with
 | none=>none
 | some i=>match i.d with
  | .bool=>match x,y with
   | .p (.bool a),.p (.bool b)=>some (a==b)
   | _,_=>none
  | .struct true fs=>match x,y with
   | .agg a,.agg b=>bif Nat.beq fs.length a.length then z7e a b else none
   | _,_=>none
  | .slice _ _=>match x,y with
   | .p (.lst _ b _ _),.p (.lst _ true 0 _)=>some b
   | .sl _ _ _ _ _ _,.p (.lst _ true 0 _)=>some false
   | .acc nb _ _ n,.p (.lst _ true 0 _)=>some (nb&&Nat.beq n 0)
   | _,_=>none
  | .ptr=>match x,y with
   | .p .nilp,.p .nilp=>some true
   | .p (.fp _ _),.p .nilp=>some false
   | .ref _ _,.p .nilp=>some false
   | _,_=>none
  | .func=>match x,y with
   | .p .nilf,.p .nilf=>some true
   | .fn _ _ _,.p .nilf=>some false
   | _,_=>none
  | .map=>match x,y with
   | .p .nilm,.p .nilm=>some true
   | .map _,.p .nilm=>some false
   | _,_=>none
  | _=>none
section
variable {E:Env} {i:LTy}
theorem zj8 {k:IntKind} (h:dOk E i (.int k)=true):i.desc = .int k:=by
 simp only [dOk] at h;split at h
 ·rename_i e;rw [e];simp at h;rw [h]
 ·cases h
theorem zdU (h:dOk E i .str=true):i.desc = .string:=by
 simp only [dOk] at h;split at h
 ·rename_i e;exact e
 ·cases h
theorem zlc (h:dOk E i .bool=true):i.desc = .bool:=by
 simp only [dOk] at h;split at h
 ·rename_i e;exact e
 ·cases h
theorem znZ (h:dOk E i .ptr=true):∃ t,i.desc = .pointer t:=by
 simp only [dOk] at h;split at h
 ·rename_i e;exact ⟨_,e⟩
 ·cases h
theorem zlb (h:dOk E i .func=true):∃ a b c,i.desc = .func a b c:=by
 simp only [dOk] at h;split at h
 ·rename_i e;exact ⟨_,_,_,e⟩
 ·cases h
theorem zo0 (h:dOk E i .map=true):∃ a b,i.desc = .map a b:=by
 simp only [dOk] at h;split at h
 ·rename_i e;exact ⟨_,_,e⟩
 ·cases h
theorem z0t {e sz:Nat} (h:dOk E i (.slice e sz)=true):i.desc = .slice e∧∃ x,Elok E e sz x:=by
 simp only [dOk] at h;split at h
 ·rename_i e' he
  simp only [yw] at h
  rw [he,←zm h.1];exact ⟨rfl,zpH h.2⟩
 ·cases h
theorem zj9 {n sz:Nat} {a:Bool} (h:dOk E i (.arr n sz a)=true):∃ e x,i.desc = .array n e∧Elok E e sz x∧x.agg=a:=by
 simp only [dOk] at h;split at h
 ·rename_i m e he
  simp only [yw] at h
  obtain ⟨h1,h2,h3⟩:=h
  obtain ⟨x,hx⟩:=zpH h2
  refine ⟨e,x,by rw [he,zm h1],hx,?_⟩
  unfold zrI at h3;rw [hx.get] at h3;simpa using h3
 ·cases h
theorem z9T:∀ {qs:List (Nat×Nat×Bool)} {fs:List Field},z1y E qs fs=true→qs.length=fs.length
 | [],[],_=>rfl
 | [],_::_,h=>by simp [z1y] at h
 | _::_,[],h=>by simp [z1y] at h
 | _::qs,_::fs,h=>by
  simp only [z1y,yw] at h
  simp [z9T h.2.2]
theorem z4H {ints:Bool} {fs:List (Nat×Nat×Bool)} (h:dOk E i (.struct ints fs)=true):∃ gs,i.desc = .struct gs∧z1y E fs gs.toList=true∧(ints=true→i.plain=true∧zce E gs.toList 0=true):=by
 simp only [dOk] at h;split at h
 ·rename_i gs he
  simp only [yw,Bool.or_eq_true] at h
  refine ⟨gs,he,h.1,fun hi=>?_⟩
  rcases h.2 with h2 | h2
  ·rw [hi] at h2;cases h2
  ·exact h2
 ·cases h
end
section
variable {S:St} {Z:Nat→Prop} {j:Nm} {E:Env}
theorem zk3 {op:BinOp} {a b:Int} {obs:List Prop} {z:PV} {t:TypeId} (h:zh9 op a b=some (obs,z)) (ho:∀ P∈obs,P):∃ u,zY E op t (.int .i64 a) (.int .i64 b)=some u∧PR E S Z z u:=by
 unfold zh9 at h
 split at h <;> (try cases h)
 ·exact ⟨_,zpZ,.bool _⟩
 ·exact ⟨_,zrf,.bool _⟩
 ·exact ⟨_,zrh,.bool _⟩
 ·exact ⟨_,zri,.bool _⟩
 ·exact ⟨_,zrj,.bool _⟩
 ·exact ⟨_,zrd,.bool _⟩
 ·have:=ho _ List.mem_cons_self;exact ⟨_,zrl this.1 this.2,.int _ _⟩
 ·have:=ho _ List.mem_cons_self;exact ⟨_,zr8 this.1 this.2,.int _ _⟩
 ·have:=ho _ List.mem_cons_self;exact ⟨_,zre this.1 this.2,.int _ _⟩
 ·exact ⟨_,zrb (ho _ List.mem_cons_self),.int _ _⟩
 ·have:=ho _ (List.mem_cons_of_mem _ List.mem_cons_self);exact ⟨_,zrc (ho _ List.mem_cons_self) this.1 this.2,.int _ _⟩
 ·split at h <;> cases h
  ·exact ⟨_,zrk (ho _ List.mem_cons_self) (ho _ (List.mem_cons_of_mem _ List.mem_cons_self)),.int _ _⟩
  ·exact ⟨_,zq0 (ho _ List.mem_cons_self) (ho _ (List.mem_cons_of_mem _ List.mem_cons_self)),.int _ _⟩
 ·split at h <;> cases h
  exact ⟨_,zs3 (ho _ List.mem_cons_self) (ho _ (List.mem_cons_of_mem _ List.mem_cons_self)),.int _ _⟩
 ·split at h <;> cases h
  exact ⟨_,zlr (ho _ List.mem_cons_self) (ho _ (List.mem_cons_of_mem _ List.mem_cons_self)),.int _ _⟩
 ·split at h <;> cases h
  exact ⟨_,zra (ho _ List.mem_cons_self) (ho _ (List.mem_cons_of_mem _ List.mem_cons_self)),.int _ _⟩
 ·split at h <;> cases h
  exact ⟨_,zr9 (ho _ List.mem_cons_self),.int _ _⟩
theorem zmD {op:BinOp} {x y:PV} {obs:List Prop} {z:PV} {t:TypeId} {v w:Value} (h:zqr op x y=some (obs,z)) (ho:∀ P∈obs,P) (hx:PR E S Z x v) (hy:PR E S Z y w):∃ u,zY E op t v w=some u∧PR E S Z z u:=by
 unfold zqr at h
 split at h
 ·cases hx;cases hy;exact zk3 h ho
 ·cases hx;cases hy
  split at h
  ·cases h;exact ⟨_,rfl,.bool _⟩
  ·cases h;exact ⟨_,rfl,.bool _⟩
  ·cases h;exact ⟨_,rfl,.bool _⟩
  ·cases h;exact ⟨_,rfl,.bool _⟩
  ·cases h;exact ⟨_,rfl,.bool _⟩
  ·cases h;exact ⟨_,rfl,.bool _⟩
  ·cases h
 ·cases hx;cases hy
  split at h
  ·cases h;exact ⟨_,rfl,.bool _⟩
  ·cases h;exact ⟨_,rfl,.bool _⟩
  ·cases h;exact ⟨_,rfl,.bool _⟩
  ·cases h;exact ⟨_,rfl,.bool _⟩
  ·cases h;exact ⟨_,rfl,.bool _⟩
  ·cases h;exact ⟨_,rfl,.bool _⟩
  ·cases h
 ·cases hx;cases hy
  unfold zoH at h
  split at h <;> cases h
  ·exact ⟨_,rfl,.bool _⟩
  ·exact ⟨_,rfl,.bool _⟩
 ·cases h
theorem zcy:∀ {fs:List Field} {i:Nat} {a b:List AV} {va vb:List Value} {r:Bool},zce E fs i=true→fs.length=a.length→z7e a b=some r→VRs E S Z j a va→VRs E S Z j b vb→z0r E fs i va vb=some r
 | [],i,[],b,va,vb,r,hi,hl,h,ha,hb=>by
  cases ha
  cases b with
  | nil=>cases hb;simp only [z7e] at h;cases h;rfl
  | cons _ _=>simp only [z7e] at h;cases h
 | [],i,_::_,b,va,vb,r,hi,hl,h,ha,hb=>by simp at hl
 | f::fs,i,[],b,va,vb,r,hi,hl,h,ha,hb=>by simp at hl
 | f::fs,i,a0::a,b,va,vb,r,hi,hl,h,ha,hb=>by
  have key:∃ x y m,a0 = .p (.int .i64 x)∧b = .p (.int .i64 y)::m:=by
   unfold z7e at h
   split at h
   ·rename_i e;exact absurd e (by simp)
   ·rename_i e1;exact ⟨_,_,_,(List.cons.inj e1).1,rfl⟩
   ·cases h
  obtain ⟨x,y,m,rfl,rfl⟩:=key
  simp only [z7e] at h
  split at h
  ·cases h
  ·rename_i r0 hr0
   cases h
   cases ha with
   | cons h1 h2 =>
    cases hb with
    | cons h3 h4 =>
     cases h1 with
     | p h1=>cases h1;cases h3 with
      | p h3 =>
       cases h3
       simp only [zce,yw] at hi
       obtain ⟨hi1,hi2,hi3⟩:=hi
       cases hx:E.ti.get f.type with
       | none=>rw [hx] at hi2;cases hi2
       | some ft =>
        rw [hx] at hi2
        have ih:=zcy hi3 (by simpa using hl) hr0 h2 h4
        have hd:isInt ft.desc=true:=hi2
        have hk:zy ft.desc (.int .i64 x)=true:=by
         cases hdd:ft.desc <;> rw [hdd] at hd <;> first | (rename_i kk;cases kk <;> first | rfl | cases hd) | cases hd
        unfold z0r
        rw [hx]
        show gd (Nat.beq f.offset i&&zy ft.desc (.int .i64 x)) (ob (z2P (.int .i64 x) (.int .i64 y)) fun p=>ob (z0r E fs (Nat.succ i) _ _) fun q=>some (p&&q))=_
        rw [hi1,hk,ih];rfl
end
def zon (i:VT) (off:Nat) (as:List AV):Option AV:=bif i.agg then (bif Nat.ble (off+i.size) as.length then some (.agg ((as.drop off).take i.size)) else none) else as[off]?
def zk1 (tb:Tab) (L:VS) (t:Nat) (x:AV):Option (List Prop×AV):=match z3O tb t with
 | none=>none
 | some i=>match x with
  | .ref b off=>match bk L b with
   | some (.cells cs _)=>match zon i off cs with
    | some a=>some ([],a)
    | none=>none
   | _=>none
  | .el b sz k off=>match bk L b with
   | some (.arr n sz' f _)=>match zon i off ((f k).map .p) with
    | some a=>some ([k<n,sz=sz'],a)
    | none=>none
   | some (.acc n sz' f _)=>match zon i off ((f k).map .p) with
    | some a=>some ([k<n,sz=sz'],a)
    | none=>none
   | some (.hdr n p xs _)=>bif i.agg then none else (match xs with
    | []=>some ([k<n,sz=1,off=0],.p (p k))
    | (q,a)::_=>some ([k<n,sz=1,off=0,k=q],a))
   | _=>none
  | .p (.fp ps off)=>match zon i off (ps.map .p) with
   | some a=>some ([],a)
   | none=>none
  | _=>none
def zmu (c a b:AV):Option (List Prop×AV):=match c with
 | .p (.bool t)=>match a,b with
  | .p (.int k x),.p (.int l y)=>bif decide (k=l) then some ([],.p (.int k (bif t then x else y))) else none
  | .p (.bool x),.p (.bool y)=>some ([],.p (.bool (bif t then x else y)))
  | _,_=>none
 | _=>none
def zoF (tb:Tab) (op:BinOp) (t:Nat) (x y:AV):Option (List Prop×AV):=match op with
 | .eql=>match veq tb t x y with
  | some b=>some ([],.p (.bool b))
  | none=>none
 | .neq=>match veq tb t x y with
  | some b=>some ([],.p (.bool !b))
  | none=>none
 | _=>none
def zoG (op:BinOp) (x y:AV):Option (List Prop×AV):=match x,y with
 | .p a,.p b=>match zqr op a b with
  | some r=>some (r.1,.p r.2)
  | none=>none
 | _,_=>none
def zbq (tb:Tab) (op:BinOp) (t:Nat) (x y:AV):Option (List Prop×AV):=match zoG op x y with
 | some r=>some r
 | none=>zoF tb op t x y
def vun (op:UnOp) (x:AV):Option (List Prop×AV):=match op,x with
 | .not,.p (.bool b)=>some ([],.p (.bool !b))
 | .neg,.p (.int .i64 a)=>some ([inR (0 - a)],.p (.int .i64 (0 - a)))
 | _,_=>none
def zmB (tb:Tab) (src dst:Nat) (x:AV):Option (List Prop×AV):=match z3O tb src,z3O tb dst,x with
 | some _,some ⟨_,_,.int .i64,_⟩,.p (.int _ n)=>some ([inR n],.p (.int .i64 n))
 | some _,some ⟨_,_,.int k,_⟩,.p (.int _ n)=>some ([k.wrap n=n],.p (.int k n))
 | some _,some ⟨_,_,.str,_⟩,.p (.str s)=>some ([],.p (.str s))
 | _,_,_=>none
def z6m (tb:Tab) (t:Nat) (x:AV) (f:Nat):Option (List Prop×AV):=match z3O tb t with
 | some ⟨_,_,.struct _ fs,_⟩=>match fs[f]? with
  | some q=>bif Nat.blt 0 q.2.1 then (match x with
   | .ref b off=>some ([],.ref b (off+q.1))
   | .el b sz k off=>some ([],.el b sz k (off+q.1))
   | .p (.fp ps off)=>some ([],.p (.fp ps (off+q.1)))
   | _=>none) else none
  | none=>none
 | _=>none
def zh3 (tb:Tab) (t:Nat) (x:AV) (f:Nat):Option (List Prop×AV):=match z3O tb t,x with
 | some ⟨_,_,.struct _ fs,_⟩,.agg cs=>match fs[f]? with
  | some q=>bif q.2.2 then (bif Nat.ble (q.1+q.2.1) cs.length then some ([],.agg ((cs.drop q.1).take q.2.1)) else none) else (match cs[q.1]? with
   | some a=>some ([],a)
   | none=>none)
  | none=>none
 | _,_=>none
def z6l (tb:Tab) (t:Nat) (x ix:AV):Option (List Prop×AV):=match z3O tb t,ix with
 | some ⟨_,_,.slice _ esz,_⟩,.p (.int _ (.ofNat k))=>match x with
  | .p (.lst _ _ n f)=>some ([k<n,(f k).length=esz],.p (.fp (f k) 0))
  | .sl b sz off n _ _=>some ([k<n,sz=esz],.el b sz (off+k) 0)
  | .acc _ b sz n=>some ([k<n,sz=esz],.el b sz k 0)
  | _=>none
 | some ⟨_,_,.arr n esz _,_⟩,.p (.int _ (.ofNat k))=>match x with
  | .ref b off=>some ([k<n],.ref b (off+k*esz))
  | .p (.fp ps off)=>some ([k<n],.p (.fp ps (off+k*esz)))
  | _=>none
 | _,_=>none
def zh0 (tb:Tab) (t:Nat) (x ix:AV):Option (List Prop×AV):=match z3O tb t,x,ix with
 | some ⟨_,_,.arr n esz ag,_⟩,.agg cs,.p (.int _ (.ofNat k))=>bif ag then (bif Nat.ble (k*esz+esz) cs.length then some ([k<n],.agg ((cs.drop (k*esz)).take esz)) else none) else (match cs[k*esz]? with
  | some a=>some ([k<n],a)
  | none=>none)
 | some ⟨_,_,.str,_⟩,.p (.str s),.p (.int _ (.ofNat k))=>some ([k<s.size],.p (.int .u8 (s[k]?.getD 0).toNat))
 | _,_,_=>none
def zd3 (tb:Tab) (L:VS) (t:Nat) (x k:AV) (ok:Bool):Option (List Prop×AV):=match z3O tb t,x,k with
 | some ⟨_,_,.mapI,_⟩,.map i,.p (.int .i64 k)=>match bk L i with
  | some (.mapI f)=>bif ok then some ([],.tup [.p (.int .i64 ((f k).getD 0)),.p (.bool (f k).isSome)]) else some ([],.p (.int .i64 ((f k).getD 0)))
  | _=>none
 | some ⟨_,_,.mapA z,_⟩,.map i,.p (.int .i64 (.ofNat k))=>match bk L i with
  | some (.mapA _ p [])=>bif ok then some ([],.tup [.p ((p k).getD z),.p (.bool (p k).isSome)]) else some ([],.p ((p k).getD z))
  | some (.mapA _ _ ((q,a)::_))=>bif ok then some ([q=k],.tup [a,.p (.bool true)]) else some ([q=k],a)
  | _=>none
 | some ⟨_,_,.mapA z,_⟩,.p .nilm,.p (.int .i64 _)=>bif ok then some ([],.tup [.p z,.p (.bool false)]) else some ([],.p z)
 | _,_,_=>none
def zmz (L:VS) (x:AV) (str:Bool):Option (List Prop×AV):=match str,x with
 | false,.ref i 0=>match bk L i with
  | some (.itr none)=>some ([],.tup [.p (.bool false)])
  | _=>none
 | _,_=>none
def zac (x:AV) (i:Nat):Option (List Prop×AV):=match x with
 | .tup vs=>match vs[i]? with
  | some a=>some ([],a)
  | none=>none
 | _=>none
def zqp (x:AV):Option (List Prop×AV):=match x with
 | .ref i o=>some ([],.ref i o)
 | .el i s k o=>some ([],.el i s k o)
 | .p (.fp ps o)=>some ([],.p (.fp ps o))
 | .fn f a b=>some ([],.fn f a b)
 | .yld l=>some ([],.yld l)
 | _=>none
def zlT (F:VK) (d:Nat):Option Operand→Option Nat
 | none=>some d
 | some x=>match av F x with
  | some (.p (.int _ (.ofNat k)))=>some k
  | _=>none
def isZ (F:VK):Option Operand→Bool
 | none=>false
 | some x=>match av F x with
  | some (.p (.int _ (.ofNat 0)))=>true
  | _=>false
def loZ (F:VK):Option Operand→Bool
 | none=>true
 | some x=>isZ F (some x)
def zcX (tb:Tab) (F:VK) (t:Nat) (x:AV) (lo hi mx:Option Operand):Option (List Prop×AV):=match z3O tb t with
 | some ⟨_,_,.slice elem _,_⟩=>bif loZ F lo&&(isZ F hi&&isZ F mx) then (match x with
  | .p (.lst ty true 0 f)=>some ([],.p (.lst ty true 0 f))
  | .p (.lst ty false _ _)=>bif Nat.beq ty elem then some ([],.p .emp) else none
  | _=>none) else none
 | _=>none
def zgT (tb:Tab) (F:VK) (L:VS) (t:Nat) (x:AV) (lo hi mx:Option Operand):Option (List Prop×AV):=match mx,z3O tb t with
 | none,some ⟨_,_,.slice elem esz,_⟩=>match x with
  | .p (.lst ty nb n f)=>match zlT F 0 lo,zlT F n hi with
   | some l,some h=>bif Nat.beq ty elem then some ([l≤h,h≤n,∀ k,k<n→(f k).length=esz],.p (.lst ty nb (h - l) fun k=>f (l+k))) else none
   | _,_=>none
  | .sl b sz off n c ex=>match zlT F 0 lo,zlT F n hi,bk L b with
   | some l,some h,some (.arr _ sz' _ t')=>bif Nat.beq t' elem then some ([l≤h,h≤c,l<c∨l=0,sz=esz],.sl b sz (off+l) (h - l) (c - l) ex) else none
   | _,_,_=>none
  | .acc _ b sz n=>match zlT F 0 lo,zlT F n hi,bk L b with
   | some l,some h,some (.acc m _ _ t')=>bif Nat.beq t' elem then some ([l≤h,h≤n,l<n,sz=esz,n=m],.sl b sz l (h - l) (n - l) 0) else none
   | _,_,_=>none
  | _=>none
 | _,_=>none
def zoE (tb:Tab) (L:VS) (t:Nat) (x:AV):Option (List Prop×AV):=match z3O tb t,x with
 | some ⟨_,_,.slice _ _,_⟩,.p (.lst _ _ n _)=>some ([],.p (.int .i64 (Int.ofNat n)))
 | some ⟨_,_,.slice _ _,_⟩,.p .emp=>some ([],.p (.int .i64 (Int.ofNat 0)))
 | some ⟨_,_,.slice _ _,_⟩,.sl _ _ _ n _ _=>some ([],.p (.int .i64 (Int.ofNat n)))
 | some ⟨_,_,.slice _ _,_⟩,.acc _ _ _ n=>some ([],.p (.int .i64 (Int.ofNat n)))
 | some ⟨_,_,.str,_⟩,.p (.str s)=>some ([],.p (.int .i64 (Int.ofNat s.size)))
 | some ⟨_,_,.mapA _,_⟩,.map i=>match bk L i with
  | some (.mapA (some n) _ _)=>some ([],.p (.int .i64 (Int.ofNat n)))
  | _=>none
 | _,_=>none
def zel (tb:Tab) (F:VK) (L:VS) (c:Call):Option (List Prop×AV):=match c.callee,c.argTypes.toList,avs F c.args.toList with
 | .builtin .len,[t],some [x]=>zoE tb L t x
 | .builtin .max,_,some [.p (.int .i64 a),.p (.int .i64 b)]=>some ([],.p (.int .i64 (max a b)))
 | .builtin .min,_,some [.p (.int .i64 a),.p (.int .i64 b)]=>some ([],.p (.int .i64 (min a b)))
 | _,_,_=>none
def zcP:AV→Option (List AV)
 | .agg cs=>some cs
 | .tup _=>none
 | .junk=>none
 | a=>some [a]
def zeg (cs:List AV) (off:Nat) (vs:List AV):Option (List AV):=bif Nat.ble (off+vs.length) cs.length then some (cs.take off++vs++cs.drop (off+vs.length)) else none
def zbo (F:VK):List (Nat×Operand)→Option (List (Nat×AV))
 | []=>some []
 | p::ps=>match av F p.2,zbo F ps with
  | some a,some l=>some ((p.1,a)::l)
  | _,_=>none
def zh1 (place:Nat→Option (Nat×Nat)) (cs:List AV):List (Nat×AV)→Option (List AV)
 | []=>some cs
 | p::ps=>match place p.1,zcP p.2 with
  | some q,some l=>bif Nat.beq l.length q.2 then (match zeg cs q.1 l with
   | some c=>zh1 place c ps
   | none=>none) else none
  | _,_=>none
def zgW (fs:List (Nat×Nat×Bool)) (i:Nat):Option (Nat×Nat):=match fs[i]? with
 | some q=>some (q.1,q.2.1)
 | none=>none
def zh7 (tb:Tab) (F:VK) (t:Nat) (parts:List (Nat×Operand)):Option (List Prop×AV):=match z3O tb t,zbo F parts with
 | some ⟨_,_,.struct _ fs,zs⟩,some ps=>match zh1 (zgW fs) (zs.map .p) ps with
  | some c=>some ([],.agg c)
  | none=>none
 | _,_=>none
def o1 (x:Option AV) (f:AV→Option (List Prop×AV)):Option (List Prop×AV):=match x with
 | none=>none
 | some a=>f a
def zgY (F:VK) (c a b:Operand):Option (List Prop×AV):=match avr F c with
 | some (.lit true)=>o1 (avr F a) fun a=>some ([],a)
 | some (.lit false)=>o1 (avr F b) fun b=>some ([],b)
 | _=>o1 (av F c) fun c=>o1 (av F a) fun a=>o1 (av F b) fun b=>zmu c a b
def zqn (F:VK) (op:UnOp) (x:Operand):Option (List Prop×AV):=match op,avr F x with
 | .not,some (.lit b)=>some ([],.lit !b)
 | _,_=>o1 (av F x) fun a=>vun op a
def zmx (tb:Tab) (F:VK) (L:VS):Op→Option (List Prop×AV)
 | .move x=>o1 (avr F x) fun a=>some ([],a)
 | .assign x=>o1 (avr F x) fun a=>some ([],a)
 | .pick c a b=>zgY F c a b
 | .load t a=>o1 (av F a) fun x=>zk1 tb L t x
 | .nilCheck x=>o1 (av F x) zqp
 | .build t parts=>zh7 tb F t parts.toList
 | .binOp op t x y _=>o1 (av F x) fun a=>o1 (av F y) fun b=>zbq tb op t a b
 | .unOp op _ x=>zqn F op x
 | .convert src dst x=>o1 (av F x) fun a=>zmB tb src dst a
 | .makeFunc (.func f) first cap=>match avs F first.toList,avs F cap.toList with
  | some a,some b=>some ([],.fn f a b)
  | _,_=>none
 | .slice t x lo hi mx=>o1 (av F x) fun a=>match mx with
  | none=>zgT tb F L t a lo hi none
  | some m=>zcX tb F t a lo hi (some m)
 | .fieldAddr t x f=>o1 (av F x) fun a=>z6m tb t a f
 | .field t x f=>o1 (av F x) fun a=>zh3 tb t a f
 | .indexAddr t x i=>o1 (av F x) fun a=>o1 (av F i) fun b=>z6l tb t a b
 | .index t x i=>o1 (av F x) fun a=>o1 (av F i) fun b=>zh0 tb t a b
 | .lookup t x k ok=>o1 (av F x) fun a=>o1 (av F k) fun b=>zd3 tb L t a b ok
 | .extract x i=>o1 (av F x) fun a=>zac a i
 | .next x str=>o1 (av F x) fun a=>zmz L a str
 | .call c=>zel tb F L c
 | _=>none
theorem z1Z {cs r:List Value} {o n:Nat} (h:cut cs o n=some r):r.length=n:=by
 unfold cut at h
 obtain ⟨h1,h2⟩:=ze h
 have:=zF h1
 simp only [Nat.add_eq] at this
 cases h2
 rw [List.length_take,List.length_drop];omega
theorem z96 {cs r:List Value} {o n a m:Nat} (h:cut cs o n=some r) (hm:a+m≤n):cut cs (o+a) m=some ((r.drop a).take m):=by
 unfold cut at h ⊢
 obtain ⟨h1,h2⟩:=ze h
 have:=zF h1
 simp only [Nat.add_eq] at this
 cases h2
 rw [show Nat.ble (Nat.add (o+a) m) cs.length=true from Nat.ble_eq_true_of_le (by show o+a+m≤_;omega)]
 show some _=some _
 rw [List.drop_take,List.take_take,List.drop_drop,Nat.min_eq_left (by omega)]
theorem z4h (cs:List Value):cut cs 0 cs.length=some cs:=by
 unfold cut
 rw [show Nat.ble (Nat.add 0 cs.length) cs.length=true by simp]
 show some _=some _
 simp
theorem z7T {l:List Value} {p:Value→Bool} (h:l.all p=true) (n:Nat):(l.take n).all p=true:=by
 rw [List.all_eq_true] at *;exact fun x hx=>h x (List.mem_of_mem_take hx)
theorem z7U {l:List Value} {p:Value→Bool} (h:l.all p=true) (n:Nat):(l.drop n).all p=true:=by
 rw [List.all_eq_true] at *;exact fun x hx=>h x (List.mem_of_mem_drop hx)
theorem z0i {x:Option AV} {f:AV→Option (List Prop×AV)} {r:List Prop×AV} (h:o1 x f=some r):∃ a,x=some a∧f a=some r:=by
 cases x with
 | none=>cases h
 | some a=>exact ⟨a,rfl,h⟩
section
variable {S:St} {Z:Nat→Prop} {j:Nm} {E:Env} {tb:Tab} {L:VS} {F:VK} {T:Fr}
theorem zeE {S':St} {b:Nat} (h:S'.cells b=S.cells b):rdc E S' b=rdc E S b:=by
 unfold rdc;rw [h]
theorem SR.rom_new {L:VS} (hS:SR E S Z j L):E.rom.get S.size=none:=by
 cases h:E.rom.get S.size with
 | none=>rfl
 | some c=>exact absurd (hS.rom _ c h).1 (Nat.lt_irrefl _)
theorem z2I {b:Nat} (h:E.rom.get b=none):rdc E S b=S.cells b:=by
 unfold rdc;rw [h]
theorem SR.rd {b i:Nat} {L:VS} (hS:SR E S Z j L) (hj:j i=some b):rdc E S b=S.cells b:=by
 unfold rdc
 cases hr:E.rom.get b with
 | none=>rfl
 | some c=>exact absurd hj ((hS.rom b c hr).2 i)
theorem z7G {t:Nat} {x:VT} {i:LTy} {b o off n:Nat} {cs vs:List Value} {ty:TypeId} {as:List AV} {a:AV} (hi:VTok E t x i) (hc:rdc E S b=some (cs,ty)) (hcut:cut cs o n=some vs) (hs:vs.all scalar=true) (hv:VRs E S Z j as vs)
  (h:zon x off as=some a):∃ u,z0e E t ⟨b,o+off,none⟩ S=some u∧VR E S Z j a u:=by
 have hlen:=hv.length
 have hcl:=z1Z hcut
 unfold z0e
 rw [hi.get]
 show ∃ u,bf i.agg (ob (ob (rdc E S b) fun c=>cut c.1 (o+off) i.size) fun c=>some (.agg c.toArray)) (ob (rdc E S b) fun c=>c.1[o+off]?)=some u∧_
 rw [hc,hi.agg,hi.size]
 unfold zon at h
 cases hg:x.agg with
 | true =>
  rw [hg] at h
  simp only [cond_true] at h
  cases hb:Nat.ble (off+x.size) as.length with
  | false=>rw [hb] at h;cases h
  | true =>
   rw [hb] at h
   cases h
   have hle:=zF hb
   refine ⟨.agg ((vs.drop off).take x.size).toArray,?_,.agg ?_ ?_⟩
   ·show ob (cut cs (o+off) x.size) _=_
    rw [z96 hcut (by omega)];rfl
   ·exact z7T (z7U hs _) _
   ·exact (hv.drop off).take x.size
 | false =>
  rw [hg] at h
  obtain ⟨u,h1,h2⟩:=hv.get h
  refine ⟨u,?_,h2⟩
  show cs[o+off]? = some u
  rw [zaY hcut (i:=off) (by have:=(List.getElem?_eq_some_iff.1 h).1;omega),h1]
theorem zek {t:Nat} {x a:AV} {obs:List Prop} {v:Value} (hT:zM E tb=true) (h:zk1 tb L t x=some (obs,a)) (ho:∀ P∈obs,P) (hS:SR E S Z j L) (hx:VR E S Z j x v):∃ p u,v = .pointer (some p)∧z0e E t p S=some u∧VR E S Z j a u:=by
 unfold zk1 at h
 split at h
 ·cases h
 ·rename_i i hi
  obtain ⟨ti,hti⟩:=zN hT hi
  split at h
  ·rename_i b off
   split at h
   ·rename_i cs ty hb
    split at h
    ·rename_i a' ha';cases h
     cases hx with
     | ref hj =>
      obtain ⟨b',h1,vs,h2,h3,h4⟩:=hS.blk _ _ hb id
      rw [hj] at h1;cases h1
      obtain ⟨u,h5,h6⟩:=z7G hti ((hS.rd hj).trans h2) (z4h vs) h3 h4 ha'
      rw [Nat.zero_add] at h5
      exact ⟨_,u,rfl,h5,h6⟩
    ·cases h
   ·cases h
  ·rename_i b sz k off
   split at h
   ·rename_i n sz' f ty hb
    split at h
    ·rename_i a' ha';cases h
     have hk:=ho (k<n) (by simp)
     have hsz:=ho (sz=sz') (by simp)
     subst hsz
     cases hx with
     | el hj =>
      obtain ⟨b',h1,vs,g,h2,h3,h4,h5⟩:=hS.blk _ _ hb id
      rw [hj] at h1;cases h1
      obtain ⟨u,h6,h7⟩:=z7G hti ((hS.rd hj).trans h2) (h4 k hk) (h5 k hk).scalars (h5 k hk).toV ha'
      exact ⟨_,u,rfl,h6,h7⟩
    ·cases h
   ·rename_i n sz' f ty hb
    split at h
    ·rename_i a' ha';cases h
     have hk:=ho (k<n) (by simp)
     have hsz:=ho (sz=sz') (by simp)
     subst hsz
     cases hx with
     | el hj =>
      obtain ⟨b',h1,vs,g,h2,h3,h4,h5⟩:=hS.blk _ _ hb (fun h0=>by have h0:n=0:=h0;omega)
      rw [hj] at h1;cases h1
      obtain ⟨u,h6,h7⟩:=z7G hti ((hS.rd hj).trans h2) (h4 k hk) (h5 k hk).scalars (h5 k hk).toV ha'
      exact ⟨_,u,rfl,h6,h7⟩
    ·cases h
   ·rename_i n pp xs ty hb
    cases hg:i.agg with
    | true=>rw [hg] at h;cases h
    | false =>
     rw [hg] at h
     simp only [cond_false] at h
     have key:∀ b',j b=some b'→k<n→∃ u,z0e E t ⟨b',k*1+0,none⟩ S=some u∧VR E S Z j (z5L pp xs k) u:=by
      intro b' hj hk
      obtain ⟨b2,h1,vs,h2,h3,h4,h5⟩:=hS.blk _ _ hb id
      rw [hj] at h1;cases h1
      obtain ⟨u,h6,h7⟩:=h5 k hk
      refine ⟨u,?_,h7⟩
      unfold z0e
      rw [hti.get]
      show bf ti.agg _ (ob (rdc E S b') fun c=>c.1[k*1+0]?)=some u
      rw [hti.agg,hg,(hS.rd hj).trans h2]
      show vs[k*1+0]? = some u
      rw [Nat.mul_one,Nat.add_zero];exact h6
     split at h
     ·cases h
      have hk:=ho (k<n) (by simp)
      have hsz:=ho (sz=1) (by simp)
      have hof:=ho (off=0) (by simp)
      subst hsz hof
      cases hx with
      | el hj =>
       obtain ⟨u,h6,h7⟩:=key _ hj hk
       exact ⟨_,u,rfl,h6,h7⟩
     ·rename_i q a' l
      cases h
      have hk:=ho (k<n) (by simp)
      have hsz:=ho (sz=1) (by simp)
      have hof:=ho (off=0) (by simp)
      have hq:=ho (k=q) (by simp)
      subst hsz hof hq
      cases hx with
      | el hj =>
       obtain ⟨u,h6,h7⟩:=key _ hj hk
       refine ⟨_,u,rfl,h6,?_⟩
       have:z5L pp ((k,a)::l) k=a:=by unfold z5L;rw [Nat.beq_refl];rfl
       rw [this] at h7;exact h7
   ·cases h
  ·rename_i ps off
   split at h
   ·rename_i a' ha';cases h
    cases hx with
    | p hx=>cases hx with
     | fp hz hc hcut hps =>
      obtain ⟨u,h6,h7⟩:=z7G hti hc hcut hps.scalars hps.toV ha'
      exact ⟨_,u,rfl,h6,h7⟩
   ·cases h
  ·cases h
end
section
variable {S:St} {Z:Nat→Prop} {j:Nm} {E:Env} {tb:Tab} {L:VS} {F:VK} {T:Fr}
theorem zjY {c a b z:AV} {obs:List Prop} {vc va vb:Value} (h:zmu c a b=some (obs,z)) (hc:VR E S Z j c vc) (ha:VR E S Z j a va) (hb:VR E S Z j b vb):∃ t,vc = .bool t∧VR E S Z j z (bf t va vb):=by
 unfold zmu at h
 split at h
 ·rename_i t
  cases hc with
  | p hc =>
   cases hc
   refine ⟨t,rfl,?_⟩
   split at h
   ·rename_i k x l y
    cases hk:decide (k=l) with
    | false=>rw [hk] at h;cases h
    | true =>
     rw [hk] at h;cases h
     obtain rfl:=of_decide_eq_true hk
     cases ha with
     | p ha=>cases ha;cases hb with
      | p hb=>cases hb;cases t <;> exact .p (.int _ _)
   ·cases h
    cases ha with
    | p ha=>cases ha;cases hb with
     | p hb=>cases hb;cases t <;> exact .p (.bool _)
   ·cases h
 ·cases h
theorem z1d {t:TypeId} {v w:Value} {r:Bool} (hs:(Nat.blt (z1B v) 2&&Nat.beq (z1B v) (z1B w))=false) (h:z2e E t v w=some r):zY E .eql t v w=some (.bool r)∧zY E .neq t v w=some (.bool !r):=by
 constructor
 ·unfold zY;rw [hs]
  show ob (z2e E t v w) _=_
  rw [h];rfl
 ·unfold zY;rw [hs]
  show ob (z2e E t v w) _=_
  rw [h];rfl
theorem z1c {t:TypeId} {i:LTy} {v w:Value} {r:Bool} (hi:E.ti.get t=some i) (h:z11 E i v w=some r):z2e E t v w=some r:=by
 unfold z2e;rw [hi];exact h
theorem zlI {t:Nat} {x y:AV} {r:Bool} {v w:Value} (hT:zM E tb=true) (h:veq tb t x y=some r) (hx:VR E S Z j x v) (hy:VR E S Z j y w) :
  zY E .eql t v w=some (.bool r)∧zY E .neq t v w=some (.bool !r):=by
 unfold veq at h
 split at h
 ·cases h
 ·rename_i i0 hi0
  obtain ⟨i,hti⟩:=zN hT hi0
  have hd:=hti.d
  split at h
  ·rename_i hk
   rw [hk] at hd
   split at h
   ·cases h
    cases hx with
    | p hx=>cases hx;cases hy with
     | p hy =>
      cases hy
      refine z1d rfl (z1c hti.get ?_)
      unfold z11;rw [zlc hd]
   ·cases h
  ·rename_i fs hk
   rw [hk] at hd
   split at h
   ·rename_i a b
    cases hl:Nat.beq fs.length a.length with
    | false=>rw [hl] at h;cases h
    | true =>
     rw [hl] at h
     change z7e a b=some r at h
     cases hx with
     | agg hs1 hv1=>cases hy with
      | agg hs2 hv2 =>
       obtain ⟨gs,hgs,hf,hin⟩:=z4H hd
       obtain ⟨hpl,hin⟩:=hin rfl
       have hlen:gs.toList.length=a.length:=by
        rw [←z9T hf];exact zm hl
       have hq:=zcy (E:=E) hin hlen h hv1 hv2
       refine z1d rfl (z1c hti.get ?_)
       unfold z11;rw [hgs]
       show gd i.plain _=_
       rw [hpl,hq];rfl
   ·cases h
  ·rename_i e sz hk
   rw [hk] at hd
   have hdd:=(z0t hd).1
   split at h
   ·cases h
    cases hy with
    | p hy=>cases hy with
     | nil=>cases hx with
      | p hx=>cases hx with
       | nil=>refine z1d rfl (z1c hti.get ?_);unfold z11;rw [hdd];rfl
       | lst=>refine z1d rfl (z1c hti.get ?_);unfold z11;rw [hdd];rfl
   ·cases h
    cases hy with
    | p hy=>cases hy with
     | nil=>cases hx with
      | sl=>refine z1d rfl (z1c hti.get ?_);unfold z11;rw [hdd];rfl
   ·cases h
    cases hy with
    | p hy=>cases hy with
     | nil=>cases hx with
      | accN=>refine z1d rfl (z1c hti.get ?_);unfold z11;rw [hdd];rfl
      | accE=>refine z1d rfl (z1c hti.get ?_);unfold z11;rw [hdd];rfl
      | accC=>refine z1d rfl (z1c hti.get ?_);unfold z11;rw [hdd];show some false=some (_&&false);rw [Bool.and_false]
   ·cases h
  ·rename_i hk
   rw [hk] at hd
   obtain ⟨pt,hdd⟩:=znZ hd
   split at h
   ·cases h
    cases hy with
    | p hy=>cases hy;cases hx with
     | p hx=>cases hx;refine z1d rfl (z1c hti.get ?_);unfold z11;rw [hdd];rfl
   ·cases h
    cases hy with
    | p hy=>cases hy;cases hx with
     | p hx=>cases hx;refine z1d rfl (z1c hti.get ?_);unfold z11;rw [hdd];rfl
   ·cases h
    cases hy with
    | p hy=>cases hy;cases hx;refine z1d rfl (z1c hti.get ?_);unfold z11;rw [hdd];rfl
   ·cases h
  ·rename_i hk
   rw [hk] at hd
   obtain ⟨_,_,_,hdd⟩:=zlb hd
   split at h
   ·cases h
    cases hy with
    | p hy=>cases hy;cases hx with
     | p hx=>cases hx;refine z1d rfl (z1c hti.get ?_);unfold z11;rw [hdd]
   ·cases h
    cases hy with
    | p hy=>cases hy;cases hx;refine z1d rfl (z1c hti.get ?_);unfold z11;rw [hdd]
   ·cases h
  ·rename_i hk
   rw [hk] at hd
   obtain ⟨_,_,hdd⟩:=zo0 hd
   split at h
   ·cases h
    cases hy with
    | p hy=>cases hy;cases hx with
     | p hx=>cases hx;refine z1d rfl (z1c hti.get ?_);unfold z11;rw [hdd];rfl
   ·cases h
    cases hy with
    | p hy=>cases hy;cases hx;refine z1d rfl (z1c hti.get ?_);unfold z11;rw [hdd];rfl
   ·cases h
  ·cases h
theorem zh8 {op:BinOp} {t:Nat} {x y z:AV} {obs:List Prop} {v w:Value} (hT:zM E tb=true) (h:zbq tb op t x y=some (obs,z)) (ho:∀ P∈obs,P) (hx:VR E S Z j x v) (hy:VR E S Z j y w):∃ u,zY E op t v w=some u∧VR E S Z j z u:=by
 unfold zbq at h
 split at h
 ·rename_i r hr
  cases h
  unfold zoG at hr
  split at hr
  ·rename_i a b
   split at hr
   ·rename_i r hb
    cases hr
    cases hx with
    | p hx=>cases hy with
     | p hy =>
      obtain ⟨u,h1,h2⟩:=zmD (t:=t) hb ho hx hy
      exact ⟨u,h1,.p h2⟩
   ·cases hr
  ·cases hr
 ·unfold zoF at h
  split at h
  ·split at h
   ·rename_i b hb;cases h;exact ⟨_,(zlI hT hb hx hy).1,.p (.bool _)⟩
   ·cases h
  ·split at h
   ·rename_i b hb;cases h;exact ⟨_,(zlI hT hb hx hy).2,.p (.bool _)⟩
   ·cases h
  ·cases h
theorem zoD {op:UnOp} {x z:AV} {obs:List Prop} {v:Value} (h:vun op x=some (obs,z)) (ho:∀ P∈obs,P) (hx:VR E S Z j x v):∃ u,unL op v=some u∧VR E S Z j z u:=by
 unfold vun at h
 split at h
 ·cases h
  cases hx with
  | p hx=>cases hx;exact ⟨_,rfl,.p (.bool _)⟩
 ·rename_i a
  cases h
  have hr:=ho _ List.mem_cons_self
  cases hx with
  | p hx =>
   cases hx
   refine ⟨.int .i64 (0 - a),?_,.p (.int _ _)⟩
   show some (Value.int .i64 (IntKind.i64.wrap (0 - a)))=_
   rw [wrap64 hr.1 hr.2]
 ·cases h
theorem zk2 {src dst:Nat} {x z:AV} {obs:List Prop} {v:Value} (hT:zM E tb=true) (h:zmB tb src dst x=some (obs,z)) (ho:∀ P∈obs,P) (hx:VR E S Z j x v) :
  ∃ i k u,E.ti.get src=some i∧E.ti.get dst=some k∧z97 k.desc v=some u∧VR E S Z j z u:=by
 unfold zmB at h
 split at h
 ·rename_i n h1 h2
  cases h
  obtain ⟨i,hi⟩:=zN hT h1
  obtain ⟨k,hk⟩:=zN hT h2
  have hr:=ho _ List.mem_cons_self
  cases hx with
  | p hx =>
   cases hx
   refine ⟨i,k,.int .i64 n,hi.get,hk.get,?_,.p (.int _ _)⟩
   rw [zj8 hk.d]
   show some (Value.int .i64 (IntKind.i64.wrap n))=_
   rw [wrap64 hr.1 hr.2]
 ·rename_i kk n h0 h1 h2
  cases h
  obtain ⟨i,hi⟩:=zN hT h1
  obtain ⟨k,hk⟩:=zN hT h2
  have hr:=ho _ List.mem_cons_self
  cases hx with
  | p hx =>
   cases hx
   refine ⟨i,k,.int _ n,hi.get,hk.get,?_,.p (.int _ _)⟩
   rw [zj8 hk.d]
   exact congrArg (fun m=>some (Value.int _ m)) hr
 ·rename_i s h1 h2
  cases h
  obtain ⟨i,hi⟩:=zN hT h1
  obtain ⟨k,hk⟩:=zN hT h2
  cases hx with
  | p hx =>
   cases hx
   refine ⟨i,k,.string s,hi.get,hk.get,?_,.p (.str _)⟩
   rw [zdU hk.d];rfl
 ·cases h
theorem zab {t f:Nat} {x z:AV} {obs:List Prop} {v:Value} (hT:zM E tb=true) (h:z6m tb t x f=some (obs,z)) (hx:VR E S Z j x v):∃ u,z1n E t v f=some u∧VR E S Z j z u:=by
 unfold z6m at h
 split at h
 ·rename_i sz ag ints fs zs hi0
  obtain ⟨i,hti⟩:=zN hT hi0
  obtain ⟨gs,hgs,hf,_⟩:=z4H hti.d
  split at h
  ·rename_i q hq
   cases hb:Nat.blt 0 q.2.1 with
   | false=>rw [hb] at h;cases h
   | true =>
    rw [hb] at h
    simp only [cond_true] at h
    obtain ⟨g,y,h1,h2,h3,h4,_⟩:=z5O hf hq
    have key:∀ b off:Nat,z1n E t (.pointer (some ⟨b,off,none⟩)) f=some (ptr b (off+q.1)):=by
     intro b off
     unfold z1n
     show ob (E.ti.get t) _=_
     rw [hti.get]
     show ob (z6o i.desc) _=_
     rw [hgs]
     show ob (z3w E gs f) _=_
     have:z3w E gs f=some (g.offset,y.size):=by
      unfold z3w
      rw [h1]
      show ob (E.ti.get g.type) _=_
      rw [h3];rfl
     rw [this]
     show gd (Nat.blt 0 y.size) _=_
     rw [h4,hb,h2];rfl
    split at h
    ·cases h
     cases hx with
     | ref hj=>exact ⟨_,key _ _,.ref hj⟩
    ·cases h
     cases hx with
     | el hj =>
      refine ⟨_,key _ _,?_⟩
      unfold ptr
      rw [Nat.add_assoc]
      exact .el hj
    ·cases h
     cases hx with
     | p hx=>cases hx with
      | fp hz hc hcut hps =>
       refine ⟨_,key _ _,?_⟩
       unfold ptr
       rw [Nat.add_assoc]
       exact .p (.fp hz hc hcut hps)
    ·cases h
  ·cases h
 ·cases h
theorem zhP {t:Nat} {i:LTy} {cs:List AV} {vs:List Value} {o sz:Nat} {ag:Bool} {z:AV} (hi:E.ti.get t=some i) (hsz:i.size=sz) (hag:i.agg=ag) (hs:vs.all scalar=true) (hv:VRs E S Z j cs vs)
  (h:(bif ag then (bif Nat.ble (o+sz) cs.length then some (AV.agg ((cs.drop o).take sz)) else none) else cs[o]?)=some z):∃ u,zbM E t vs o=some u∧VR E S Z j z u:=by
 unfold zbM
 rw [hi]
 show ∃ u,bf i.agg (ob (cut vs o i.size) fun c=>some (.agg c.toArray)) vs[o]? = some u∧_
 rw [hag,hsz]
 cases ag with
 | true =>
  simp only [cond_true] at h
  cases hb:Nat.ble (o+sz) cs.length with
  | false=>rw [hb] at h;cases h
  | true =>
   rw [hb] at h;cases h
   have:=zF hb
   rw [hv.length] at this
   refine ⟨.agg ((vs.drop o).take sz).toArray,?_,.agg (z7T (z7U hs _) _) ((hv.drop o).take sz)⟩
   show ob (cut vs o sz) _=_
   have:=z96 (z4h vs) (a:=o) (m:=sz) this
   rw [Nat.zero_add] at this
   rw [this];rfl
 | false =>
  obtain ⟨u,h1,h2⟩:=hv.get h
  exact ⟨u,h1,h2⟩
theorem zh2 {t f:Nat} {x z:AV} {obs:List Prop} {v:Value} (hT:zM E tb=true) (h:zh3 tb t x f=some (obs,z)) (hx:VR E S Z j x v):∃ u,z9U E t v f=some u∧VR E S Z j z u:=by
 unfold zh3 at h
 split at h
 ·rename_i sz ag ints fs zs cs hi0
  obtain ⟨i,hti⟩:=zN hT hi0
  obtain ⟨gs,hgs,hf,_⟩:=z4H hti.d
  split at h
  ·rename_i q hq
   obtain ⟨g,y,h1,h2,h3,h4,h5⟩:=z5O hf hq
   cases hx with
   | agg hs hv =>
    rename_i vs
    have:∃ u,zbM E g.type vs.toList q.1=some u∧VR E S Z j z u:=by
     refine zhP h3 h4 h5 hs hv ?_
     cases hq2:q.2.2 with
     | true =>
      rw [hq2] at h
      simp only [cond_true] at h ⊢
      cases hb:Nat.ble (q.1+q.2.1) cs.length with
      | false=>rw [hb] at h;cases h
      | true=>rw [hb] at h;cases h;rfl
     | false =>
      rw [hq2] at h
      simp only [cond_false] at h ⊢
      split at h
      ·rename_i a ha;cases h;exact ha
      ·cases h
    obtain ⟨u,h6,h7⟩:=this
    refine ⟨u,?_,h7⟩
    unfold z9U
    show ob (E.ti.get t) _=_
    rw [hti.get]
    show ob (z6o i.desc) _=_
    rw [hgs]
    show ob gs.toList[f]? _=_
    rw [h1]
    show zbM E g.type vs.toList g.offset=_
    rw [h2];exact h6
  ·cases h
 ·cases h
theorem PR.lst_elem {ty n k:Nat} {nb:Bool} {f:Nat→List PV} {v:Value} (h:PR E S Z (.lst ty nb n f) v) (hk:k<n):∃ b o sp cap t cs g,nb=false∧v = .slice (some ⟨b,o,sp⟩) n cap∧n≤cap∧Z b∧rdc E S b=some (cs,t)∧cut cs (o+k*(f k).length) (f k).length=some g∧PRs E S Z (f k) g:=by
 cases h with
 | nil=>omega
 | lst g hz hc hcap hoff hty hcut hp =>
  have h1:=hp k hk
  have h2:=hcut k hk
  have h3:(f k).length=_:=h1.length.trans (z1Z h2)
  exact ⟨_,_,_,_,_,_,g k,rfl,rfl,hcap,hz,hc,by rw [h3];exact h2,h1⟩
theorem za9 {t:Nat} {x ix z:AV} {obs:List Prop} {v w:Value} (hT:zM E tb=true) (h:z6l tb t x ix=some (obs,z)) (ho:∀ P∈obs,P) (hx:VR E S Z j x v) (hix:VR E S Z j ix w):∃ u,z0P E t v w=some u∧VR E S Z j z u:=by
 unfold z6l at h
 split at h
 ·rename_i sz ag elem esz zs ik k hi0
  obtain ⟨i,hti⟩:=zN hT hi0
  obtain ⟨hgs,y,hy⟩:=z0t hti.d
  cases hix with
  | p hix =>
   cases hix
   have key:∀ (a:Addr) (n c:Nat),k<n→z0P E t (.slice (some a) n c) (.int ik (Int.ofNat k))=some (ptr a.block (a.off+k*esz)):=by
    intro a n c hk
    unfold z0P
    show ob (E.ti.get t) _=_
    rw [hti.get]
    show z4B E i.desc _ k=_
    rw [hgs]
    show ob (E.ti.get elem) _=_
    rw [hy.get]
    show gd (Nat.blt k n) (some (ptr a.block (a.off+k*y.size)))=_
    rw [znz hk,hy.size]
   split at h
   ·rename_i ty nb n f
    cases h
    have hk:=ho (k<n) (by simp)
    have hl:=ho ((f k).length=esz) (by simp)
    cases hx with
    | p hx =>
     obtain ⟨b,o,sp,cap,t',cs,g,_,rfl,_,hz,hc,hcut,hp⟩:=hx.lst_elem hk
     refine ⟨_,key _ _ _ hk,?_⟩
     rw [hl] at hcut
     show VR E S Z j _ (.pointer (some ⟨b,o+k*esz,none⟩))
     exact .p (.fp (off:=0) hz hc (by rw [hl];exact hcut) hp)
   ·rename_i b sz off n c ex
    cases h
    have hk:=ho (k<n) (by simp)
    have hl:=ho (sz=esz) (by simp)
    subst hl
    cases hx with
    | sl hj =>
     refine ⟨_,key _ _ _ hk,?_⟩
     unfold ptr
     rw [show off*sz+k*sz=(off+k)*sz+0 by rw [Nat.add_mul,Nat.add_zero]]
     exact .el hj
   ·rename_i nb b sz n
    cases h
    have hk:=ho (k<n) (by simp)
    have hl:=ho (sz=esz) (by simp)
    subst hl
    cases hx with
    | accN=>omega
    | accE=>omega
    | accC hj =>
     refine ⟨_,key _ _ _ hk,?_⟩
     unfold ptr
     rw [show 0+k*sz=k*sz+0 by omega]
     exact .el hj
   ·cases h
 ·rename_i sz ag m esz ag2 zs ik k hi0
  obtain ⟨i,hti⟩:=zN hT hi0
  obtain ⟨e,y,hgs,hy,_⟩:=zj9 hti.d
  cases hix with
  | p hix =>
   cases hix
   have key:∀ (b off:Nat),k<m→z0P E t (.pointer (some ⟨b,off,none⟩)) (.int ik (Int.ofNat k))=some (ptr b (off+k*esz)):=by
    intro b off hk
    unfold z0P
    show ob (E.ti.get t) _=_
    rw [hti.get]
    show z4B E i.desc _ k=_
    rw [hgs]
    show ob (E.ti.get e) _=_
    rw [hy.get]
    show gd (Nat.blt k m) (some (ptr b (off+k*y.size)))=_
    rw [znz hk,hy.size]
   split at h
   ·cases h
    have hk:=ho (k<m) (by simp)
    cases hx with
    | ref hj=>exact ⟨_,key _ _ hk,.ref hj⟩
   ·cases h
    have hk:=ho (k<m) (by simp)
    cases hx with
    | p hx=>cases hx with
     | fp hz hc hcut hps =>
      refine ⟨_,key _ _ hk,?_⟩
      unfold ptr
      rw [Nat.add_assoc]
      exact .p (.fp hz hc hcut hps)
   ·cases h
 ·cases h
end
section
variable {S:St} {Z:Nat→Prop} {j:Nm} {E:Env} {tb:Tab} {L:VS} {F:VK} {T:Fr}
theorem zgZ {t:Nat} {x ix z:AV} {obs:List Prop} {v w:Value} (hT:zM E tb=true) (h:zh0 tb t x ix=some (obs,z)) (ho:∀ P∈obs,P) (hx:VR E S Z j x v) (hix:VR E S Z j ix w):∃ u,z8N E t v w=some u∧VR E S Z j z u:=by
 unfold zh0 at h
 split at h
 ·rename_i sz ag0 m esz ag zs cs ik k hi0
  obtain ⟨i,hti⟩:=zN hT hi0
  obtain ⟨e,y,hgs,hy,hag⟩:=zj9 hti.d
  cases hix with
  | p hix =>
   cases hix
   cases hx with
   | agg hs hv =>
    rename_i vs
    have hko:k<m∧(bif ag then (bif Nat.ble (k*esz+esz) cs.length then some (AV.agg ((cs.drop (k*esz)).take esz)) else none) else cs[k*esz]?)=some z:=by
     cases ag with
     | true =>
      simp only [cond_true] at h ⊢
      cases hb:Nat.ble (k*esz+esz) cs.length with
      | false=>rw [hb] at h;cases h
      | true=>rw [hb] at h;cases h;exact ⟨ho _ (by simp),rfl⟩
     | false =>
      simp only [cond_false] at h ⊢
      split at h
      ·rename_i a ha;cases h;exact ⟨ho _ (by simp),ha⟩
      ·cases h
    obtain ⟨u,h6,h7⟩:=zhP hy.get hy.size hag hs hv hko.2
    refine ⟨u,?_,h7⟩
    unfold z8N
    show ob (E.ti.get t) _=_
    rw [hti.get]
    show zfa E i.desc _ k=_
    rw [hgs]
    show ob (E.ti.get e) _=_
    rw [hy.get]
    show gd (Nat.blt k m) (zbM E e vs.toList (k*y.size))=_
    rw [hy.size,h6,znz hko.1]
 ·rename_i sz ag0 zs s ik k hi0
  obtain ⟨i,hti⟩:=zN hT hi0
  cases h
  have hk:=ho (k<s.size) (by simp)
  cases hix with
  | p hix =>
   cases hix
   cases hx with
   | p hx =>
    cases hx
    refine ⟨.int .u8 (s[k]?.getD 0).toNat,?_,.p (.int _ _)⟩
    unfold z8N
    show ob (E.ti.get t) _=_
    rw [hti.get]
    show zfa E i.desc _ k=_
    rw [zdU hti.d]
    show ob s[k]? _=_
    rw [getElem?_pos s k hk];rfl
 ·cases h
theorem zd4 {x z:AV} {i:Nat} {obs:List Prop} {v:Value} (h:zac x i=some (obs,z)) (hx:VR E S Z j x v):∃ vs u,v = .tuple vs∧vs.toList[i]? = some u∧VR E S Z j z u:=by
 unfold zac at h
 split at h
 ·split at h
  ·rename_i a ha
   cases h
   cases hx with
   | tup hv =>
    obtain ⟨u,h1,h2⟩:=hv.get ha
    exact ⟨_,u,rfl,h1,h2⟩
  ·cases h
 ·cases h
theorem zmy {x z:AV} {obs:List Prop} {v:Value} (h:zqp x=some (obs,z)) (hx:VR E S Z j x v):z4I v=some v∧VR E S Z j z v:=by
 unfold zqp at h
 split at h
 ·cases h;cases hx with | ref hj=>exact ⟨rfl,.ref hj⟩
 ·cases h;cases hx with | el hj=>exact ⟨rfl,.el hj⟩
 ·cases h;cases hx with
  | p hx=>cases hx with
   | fp a b c d=>exact ⟨rfl,.p (.fp a b c d)⟩
 ·cases h;cases hx with | fn a b=>exact ⟨rfl,.fn a b⟩
 ·cases h;cases hx with | yld a=>exact ⟨rfl,.yld a⟩
 ·cases h
theorem z3F {cs r:List Value} {o n:Nat} (h:cut cs o n=some r):o+n≤cs.length:=by
 unfold cut at h
 exact zF (ze h).1
theorem zpJ {cs r:List Value} {o n:Nat} (h:cut cs o n=some r):o≤cs.length:=by
 have:=z3F h;omega
theorem z6y {d:Nat} {x:Option Operand} {n:Nat} (hF:FRR E S Z j F T) (h:zlT F d x=some n):z2v T d x=some n:=by
 unfold zlT at h
 split at h
 ·cases h;rfl
 ·rename_i x
  split at h
  ·rename_i ik k ha
   cases h
   obtain ⟨v,h1,h2⟩:=hF.ev ha
   cases h2 with
   | p h2 =>
    cases h2
    show ob (T.ev x) z3N=_
    rw [h1];rfl
  ·cases h
theorem z3m {a b:Nat} (h:a≤b):Nat.ble a b=true:=Nat.ble_eq_true_of_le h
theorem zgS {t:Nat} {x z:AV} {lo hi mx:Option Operand} {obs:List Prop} {v:Value} (hT:zM E tb=true) (h:zgT tb F L t x lo hi mx=some (obs,z)) (ho:∀ P∈obs,P) (hS:SR E S Z j L) (hF:FRR E S Z j F T) (hx:VR E S Z j x v) :
  ∃ u,z2d E t v T lo hi mx S=some u∧VR E S Z j z u:=by
 unfold zgT at h
 split at h
 ·rename_i sz ag elem esz zs hi0
  obtain ⟨i,hti⟩:=zN hT hi0
  obtain ⟨hgs,y,hy⟩:=z0t hti.d
  have key:∀ (a:Option Addr) (n c:Nat),z2d E t (.slice a n c) T lo hi none S=gd (z3i S elem a) (z8a y a n c T lo hi none):=by
   intro a n c
   obtain ⟨d,s1,b1,z1,p1,a1⟩:=i
   change d=_ at hgs
   subst hgs
   unfold z2d
   rw [hti.get]
   show ob (E.ti.get elem) _=_
   rw [hy.get];rfl
  have key2:∀ (a:Option Addr) (n c l h:Nat),z3i S elem a=true→z2v T 0 lo=some l→z2v T n hi=some h→l≤h→h≤c →
    z2d E t (.slice a n c) T lo hi none S=some (Option.rec (.slice none 0 0) (fun a=>.slice (some (z0g a l y.size c)) (Nat.sub h l) (Nat.sub c l)) a):=by
   intro a n c l h he h1 h2 h3 h4
   rw [key,he]
   show z8a y a n c T lo hi none=_
   unfold z8a
   rw [h1]
   show ob (z2v T n hi) _=_
   rw [h2]
   show gd (Nat.ble l h&&Nat.ble h c) _=_
   rw [z3m h3,z3m h4];rfl
  split at h
  ·rename_i ty nb n f
   split at h
   ·rename_i l hh hl hhi
    cases hb:Nat.beq ty elem with
    | false=>rw [hb] at h;cases h
    | true =>
     rw [hb] at h
     cases h
     obtain rfl:=zm hb
     have h1:=ho (l≤hh) (by simp)
     have h2:=ho (hh≤n) (by simp)
     have h3:=ho (∀ k,k<n→(f k).length=esz) (by simp)
     have hlo:=z6y hF hl
     have hhi':=z6y hF hhi
     cases hx with
     | p hx=>cases hx with
      | nil =>
       obtain rfl:hh=0:=by omega
       obtain rfl:l=0:=by omega
       exact ⟨_,key2 none 0 0 0 0 rfl hlo hhi' h1 h2,.p (.nil _ _)⟩
      | lst g hz hc hcap hoff hty hcut hp =>
       rename_i b o cap sz' sp cs t'
       have he:z3i S ty (some ⟨b,o,sp⟩)=true:=by
        cases sp with
        | none=>rfl
        | some q =>
         show Option.rec false (fun (c:List Value×TypeId)=>Nat.beq c.2 ty) (S.cells b)=true
         rcases hty with h | ⟨h,h'⟩
         ·cases h
         ·rw [←z2I (E:=E) h',hc];subst h;exact Nat.beq_refl _
       refine ⟨_,key2 _ n cap l hh he hlo hhi' h1 (by omega),?_⟩
       by_cases hlh:l<hh
       ·have hsz:sz'=esz:=by
         have:=h3 0 (by omega)
         have h4:=(hp 0 (by omega)).length
         rw [z1Z (hcut 0 (by omega))] at h4
         omega
        subst hsz
        have hf:z0g ⟨b,o,sp⟩ l y.size cap=⟨b,o+l*sz',match sp with | none=>none | some _=>some 0⟩:=by
         unfold z0g
         cases sp with
         | none =>
          show bf (Nat.beq cap l) _ _=_
          rw [z0B (by omega),hy.size];rfl
         | some q=>show Addr.mk _ _ _=_;rw [hy.size]
        show VR E S Z j _ (.slice (some (z0g ⟨b,o,sp⟩ l y.size cap)) (Nat.sub hh l) (Nat.sub cap l))
        rw [hf]
        refine .p (.lst (sz:=sz') (fun k=>g (l+k)) hz hc (by simp only [Nat.sub_eq];omega) (zpJ (hcut l (by omega))) ?_ (fun k hk=>?_) (fun k hk=>hp (l+k) (by omega)))
        ·cases sp with
         | none=>exact .inl rfl
         | some q =>
               rcases hty with h | h
               ·cases h
               ·exact .inr h
        ·have:=hcut (l+k) (by omega)
         rw [show o+l*sz'+k*sz'=o+(l+k)*sz' by rw [Nat.add_mul];omega]
         exact this
       ·obtain rfl:l=hh:=by omega
        show VR E S Z j _ (.slice (some (z0g ⟨b,o,sp⟩ l y.size cap)) (Nat.sub l l) (Nat.sub cap l))
        rw [show Nat.sub l l=0 from Nat.sub_self l]
        have hend:o+l*y.size≤cs.length:=by
         by_cases hn0:l=0
         ·subst hn0;omega
         ·have hsz:sz'=esz:=by
           have:=h3 0 (by omega)
           have h4:=(hp 0 (by omega)).length
           rw [z1Z (hcut 0 (by omega))] at h4
           omega
          subst hsz
          rw [hy.size]
          have:=z3F (hcut (l - 1) (by omega))
          have e:(l - 1)*sz'+sz'=l*sz':=by
           rw [←Nat.succ_mul];congr 1;omega
          omega
        have:∃ o',o'≤cs.length∧(z0g ⟨b,o,sp⟩ l y.size cap)=⟨b,o',match sp with | none=>none | some q=>some 0⟩:=by
         unfold z0g
         cases sp with
         | none =>
          show ∃ o',_∧bf (Nat.beq cap l) _ _=_
          cases Nat.beq cap l
          ·exact ⟨_,hend,rfl⟩
          ·exact ⟨_,hoff,rfl⟩
         | some q=>exact ⟨_,hend,rfl⟩
        obtain ⟨o',hoo,ho'⟩:=this
        rw [ho',Nat.sub_self]
        refine .p (.lst (sz:=0) (fun _=>[]) hz hc (yu _) hoo ?_ (fun k hk=>by omega) (fun k hk=>by omega))
        cases sp with
        | none=>exact .inl rfl
        | some q =>
              rcases hty with h | h
              ·cases h
              ·exact .inr h
   ·cases h
  ·rename_i b sz off n c ex
   split at h
   ·rename_i l hh m sz' f' t' hl hhi hb
    cases hbt:Nat.beq t' elem with
    | false=>rw [hbt] at h;cases h
    | true =>
     rw [hbt] at h
     cases h
     obtain rfl:=zm hbt
     have h1:=ho (l≤hh) (by simp)
     have h2:=ho (hh≤c) (by simp)
     have h3:=ho (l<c∨l=0) (by simp)
     have h4:=ho (sz=esz) (by simp)
     subst h4
     have hlo:=z6y hF hl
     have hhi':=z6y hF hhi
     cases hx with
     | sl hj =>
      rename_i b'
      obtain ⟨b2,e1,vs,g,hc,_⟩:=hS.blk _ _ hb id
      rw [hj] at e1;cases e1
      have he:z3i S t' (some ⟨b',off*sz,bif Nat.beq ex 0 then some 0 else none⟩)=true:=by
       cases Nat.beq ex 0 with
       | false=>rfl
       | true =>
        show Option.rec false (fun (c:List Value×TypeId)=>Nat.beq c.2 t') (S.cells b')=true
        rw [hc];exact Nat.beq_refl _
      refine ⟨_,key2 _ n c l hh he hlo hhi' h1 h2,?_⟩
      have hf:z0g ⟨b',off*sz,bif Nat.beq ex 0 then some 0 else none⟩ l y.size c=⟨b',(off+l)*sz,bif Nat.beq ex 0 then some 0 else none⟩:=by
       unfold z0g
       rw [hy.size]
       cases Nat.beq ex 0 with
       | true=>show Addr.mk _ _ _=_;rw [Nat.add_mul];rfl
       | false =>
        show bf (Nat.beq c l) _ _=_
        by_cases hcl:c=l
        ·subst hcl
         rw [Nat.beq_refl]
         obtain rfl:c=0:=by omega
         rfl
        ·rw [z0B hcl,Nat.add_mul];rfl
      show VR E S Z j _ (.slice (some (z0g ⟨b',off*sz,bif Nat.beq ex 0 then some 0 else none⟩ l y.size c)) (Nat.sub hh l) (Nat.sub c l))
      rw [hf]
      exact .sl hj
   ·cases h
  ·rename_i nb b sz n
   split at h
   ·rename_i l hh m sz' f' t' hl hhi hb
    cases hbt:Nat.beq t' elem with
    | false=>rw [hbt] at h;cases h
    | true =>
     rw [hbt] at h
     cases h
     obtain rfl:=zm hbt
     have h1:=ho (l≤hh) (by simp)
     have h2:=ho (hh≤n) (by simp)
     have h3:=ho (l<n) (by simp)
     have h4:=ho (sz=esz) (by simp)
     subst h4
     have hlo:=z6y hF hl
     have hhi':=z6y hF hhi
     cases hx with
     | accN=>omega
     | accE=>omega
     | accC hj =>
      rename_i n0 b'
      obtain ⟨b2,e1,vs,g,hc,_⟩:=hS.blk _ _ hb (fun h0=>by have h5:=ho (n0+1=m) (by simp);have h0:m=0:=h0;omega)
      rw [hj] at e1;cases e1
      have he:z3i S t' (some ⟨b',0,some 0⟩)=true:=by
       show Option.rec false (fun (c:List Value×TypeId)=>Nat.beq c.2 t') (S.cells b')=true
       rw [hc];exact Nat.beq_refl _
      refine ⟨_,key2 _ (n0+1) (n0+1) l hh he hlo hhi' h1 h2,?_⟩
      have hf:z0g ⟨b',0,some 0⟩ l y.size (n0+1)=⟨b',l*sz,some 0⟩:=by
       unfold z0g
       rw [hy.size]
       show Addr.mk _ _ _=_;rw [Nat.zero_add]
      show VR E S Z j _ (.slice (some (z0g ⟨b',0,some 0⟩ l y.size (n0+1))) (Nat.sub hh l) (Nat.sub (n0+1) l))
      rw [hf]
      exact .sl hj
   ·cases h
  ·cases h
 ·cases h
theorem zin {x:Option Operand} {d:Nat} (hF:FRR E S Z j F T) (h:isZ F x=true):z2v T d x=some 0∧∃ y,x=some y∧ob (T.ev y) z3N=some 0:=by
 unfold isZ at h
 split at h
 ·cases h
 ·rename_i y
  split at h
  ·rename_i ik ha
   obtain ⟨v,h1,h2⟩:=hF.ev ha
   cases h2 with
   | p h2 =>
    cases h2
    have:ob (T.ev y) z3N=some 0:=by rw [h1];rfl
    exact ⟨this,y,rfl,this⟩
  ·cases h
theorem zfG {t:Nat} {x z:AV} {lo hi mx:Option Operand} {obs:List Prop} {v:Value} (hT:zM E tb=true) (h:zcX tb F t x lo hi mx=some (obs,z)) (hS:SR E S Z j L) (hF:FRR E S Z j F T) (hx:VR E S Z j x v) :
  ∃ u,z2d E t v T lo hi mx S=some u∧VR E S Z j z u:=by
 unfold zcX at h
 split at h
 ·rename_i sz ag elem esz zs hi0
  obtain ⟨i,hti⟩:=zN hT hi0
  obtain ⟨hgs,y,hy⟩:=z0t hti.d
  cases hb:(loZ F lo&&(isZ F hi&&isZ F mx)) with
  | false=>rw [hb] at h;cases h
  | true =>
   rw [hb] at h
   simp only [cond_true] at h
   simp only [yw] at hb
   obtain ⟨b1,b2,b3⟩:=hb
   have hlo:z2v T 0 lo=some 0:=by
    cases lo with
    | none=>rfl
    | some y=>exact (zin (x:=some y) hF b1).1
   obtain ⟨_,hh,rfl,hhv⟩:=zin (d:=0) hF b2
   obtain ⟨_,hm,rfl,hmv⟩:=zin (d:=0) hF b3
   have key:∀ (a:Option Addr) (n c:Nat),z3i S elem a=true→z2d E t (.slice a n c) T lo (some hh) (some hm) S=some (Option.rec (.slice none 0 0) (fun a=>.slice (some ⟨a.block,a.off+0,none⟩) 0 0) a):=by
    intro a n c he
    obtain ⟨d,s1,b1,z1,p1,a1⟩:=i
    change d=_ at hgs
    subst hgs
    unfold z2d
    rw [hti.get]
    show ob (E.ti.get elem) _=_
    rw [hy.get]
    show gd (z3i S elem a) (z8a y a n c T lo (some hh) (some hm))=_
    rw [he]
    show z8a y a n c T lo (some hh) (some hm)=_
    unfold z8a
    rw [hlo]
    show ob (ob (T.ev hh) z3N) _=_
    rw [hhv]
    show gd (Nat.ble 0 0&&Nat.ble 0 c) (ob (ob (T.ev hm) z3N) _)=_
    rw [hmv]
    cases c <;> rfl
   split at h
   ·cases h
    cases hx with
    | p hx=>cases hx with
     | nil=>exact ⟨_,key none 0 0 rfl,.p (.nil _ _)⟩
   ·rename_i ty n f
    cases hx with
    | p hx=>cases hx with
     | lst g hz hc hcap hoff hty hcut hp =>
      rename_i b o cap sz' sp cs t'
      cases hbt:Nat.beq ty elem with
      | false=>rw [hbt] at h;cases h
      | true =>
       rw [hbt] at h
       cases h
       obtain rfl:=zm hbt
       have he:z3i S ty (some ⟨b,o,sp⟩)=true:=by
        cases sp with
        | none=>rfl
        | some q =>
         show Option.rec false (fun (c:List Value×TypeId)=>Nat.beq c.2 ty) (S.cells b)=true
         rcases hty with h | ⟨h,h'⟩
         ·cases h
         ·rw [←z2I (E:=E) h',hc];subst h;exact Nat.beq_refl _
       exact ⟨_,key _ _ _ he,.p (.emp hz hc hoff)⟩
   ·cases h
 ·cases h
theorem z5U {i:LTy} {z:PV} (h:dOk E i (.mapA z)=true):∃ k e x y,i.desc = .map k e∧E.ti.get k=some x∧x.desc = .int .i64∧E.ti.get e=some y∧zOk z y.zero=true:=by
 unfold dOk at h
 simp only at h
 split at h
 ·rename_i k e hd
  simp only [yw] at h
  obtain ⟨h1,h2⟩:=h
  unfold kOk at h1
  unfold zrx at h2
  cases hk:E.ti.get k with
  | none=>rw [hk] at h1;cases h1
  | some x =>
   cases he:E.ti.get e with
   | none=>rw [he] at h2;cases h2
   | some y =>
    rw [hk] at h1
    rw [he] at h2
    have h1:ziu x.desc=true:=h1
    refine ⟨k,e,x,y,hd,hk,?_,he,h2⟩
    unfold ziu at h1
    split at h1
    ·assumption
    ·cases h1
 ·cases h
theorem zmA {t:Nat} {x z:AV} {obs:List Prop} {v:Value} (hT:zM E tb=true) (h:zoE tb L t x=some (obs,z)) (hS:SR E S Z j L) (hx:VR E S Z j x v):∃ u,z2O E .len [t] [v] S=some (u,S)∧VR E S Z j z u:=by
 unfold zoE at h
 split at h
 ·rename_i sz ag elem esz zs ty nb n f hi0
  obtain ⟨i,hti⟩:=zN hT hi0
  cases h
  have key:∀ a n c,z2O E .len [t] [.slice a n c] S=some (.int .i64 (Int.ofNat n),S):=by
   intro a n c
   show ob (E.ti.get t) _=_
   rw [hti.get]
   show ob (zf4 i.desc _ S) _=_
   rw [(z0t hti.d).1];rfl
  cases hx with
  | p hx=>cases hx with
   | nil=>exact ⟨_,key _ _ _,.p (.int _ _)⟩
   | lst=>exact ⟨_,key _ _ _,.p (.int _ _)⟩
 ·rename_i sz ag elem esz zs hi0
  obtain ⟨i,hti⟩:=zN hT hi0
  cases h
  cases hx with
  | p hx=>cases hx with
   | emp =>
    refine ⟨.int .i64 (Int.ofNat 0),?_,.p (.int _ _)⟩
    show ob (E.ti.get t) _=_
    rw [hti.get]
    show ob (zf4 i.desc _ S) _=_
    rw [(z0t hti.d).1];rfl
 ·rename_i sz ag elem esz zs b sz2 off n c ex hi0
  obtain ⟨i,hti⟩:=zN hT hi0
  cases h
  cases hx with
  | sl hj =>
   refine ⟨.int .i64 (Int.ofNat n),?_,.p (.int _ _)⟩
   show ob (E.ti.get t) _=_
   rw [hti.get]
   show ob (zf4 i.desc _ S) _=_
   rw [(z0t hti.d).1];rfl
 ·rename_i sz ag elem esz zs nb b sz2 n hi0
  obtain ⟨i,hti⟩:=zN hT hi0
  cases h
  refine ⟨.int .i64 (Int.ofNat n),?_,.p (.int _ _)⟩
  show ob (E.ti.get t) _=_
  rw [hti.get]
  show ob (zf4 i.desc _ S) _=_
  rw [(z0t hti.d).1]
  cases hx <;> rfl
 ·rename_i sz ag zs s hi0
  obtain ⟨i,hti⟩:=zN hT hi0
  cases h
  cases hx with
  | p hx =>
   cases hx
   refine ⟨.int .i64 (Int.ofNat s.size),?_,.p (.int _ _)⟩
   show ob (E.ti.get t) _=_
   rw [hti.get]
   show ob (zf4 i.desc _ S) _=_
   rw [zdU hti.d];rfl
 ·rename_i sz ag z0 zs i hi0
  obtain ⟨ti,hti⟩:=zN hT hi0
  obtain ⟨kt,et,xk,xe,hd,hgk,hdk,hge,hz⟩:=z5U hti.d
  split at h
  ·rename_i n p xs hb
   cases h
   cases hx with
   | map hj =>
    rename_i b'
    obtain ⟨b2,h1,l,h2,h3,h4⟩:=hS.blk _ _ hb id
    obtain rfl:b'=b2:=Option.some.inj (hj.symm.trans h1)
    refine ⟨.int .i64 (Int.ofNat n),?_,.p (.int _ _)⟩
    show ob (E.ti.get t) _=_
    rw [hti.get]
    show ob (zf4 ti.desc _ S) _=_
    rw [hd]
    show ob (ob (ob (S.heap.get b') z8x) _) _=_
    rw [h2]
    show some (Value.int .i64 (z4Q l).length,S)=_
    rw [show (z4Q l).length=l.length from List.length_map ..,h3.2 n rfl];rfl
  ·cases h
 ·cases h
theorem zpq (a b:Int):(if b > a then b else a)=max a b:=by omega
theorem zpi (a b:Int):(if b<a then b else a)=min a b:=by omega
theorem zbp {c:Call} {z:AV} {obs:List Prop} (hT:zM E tb=true) (h:zel tb F L c=some (obs,z)) (hS:SR E S Z j L) (hF:FRR E S Z j F T):∃ u,(∀ cF dF,zR E cF dF T S (.call c)=some (u,S))∧VR E S Z j z u:=by
 unfold zel at h
 split at h
 ·rename_i t x hc ht ha
  obtain ⟨vs,h1,h2⟩:=hF.evs ha
  cases h2 with
  | cons hv hl =>
   cases hl
   obtain ⟨u,h3,h4⟩:=zmA hT h hS hv
   refine ⟨u,fun cF dF=>?_,h4⟩
   show ob (T.evs c.args.toList) _=_
   rw [h1,hc,ht];exact h3
 ·rename_i ts a b hc ha
  obtain ⟨vs,h1,h2⟩:=hF.evs ha
  cases h
  cases h2 with
  | cons hv hl=>cases hl with
   | cons hw hl =>
    cases hl
    cases hv with
    | p hv=>cases hv;cases hw with
     | p hw =>
      cases hw
      refine ⟨.int .i64 (max a b),fun cF dF=>?_,.p (.int _ _)⟩
      show ob (T.evs c.args.toList) _=_
      rw [h1,hc]
      show some (Value.int .i64 (if b > a then b else a),S)=_
      rw [zpq]
 ·rename_i ts a b hc ha
  obtain ⟨vs,h1,h2⟩:=hF.evs ha
  cases h
  cases h2 with
  | cons hv hl=>cases hl with
   | cons hw hl =>
    cases hl
    cases hv with
    | p hv=>cases hv;cases hw with
     | p hw =>
      cases hw
      refine ⟨.int .i64 (min a b),fun cF dF=>?_,.p (.int _ _)⟩
      show ob (T.evs c.args.toList) _=_
      rw [h1,hc]
      show some (Value.int .i64 (if b<a then b else a),S)=_
      rw [zpi]
 ·cases h
theorem zgX {c a b:Operand} {z:AV} {obs:List Prop} (h:zgY F c a b=some (obs,z)) (hF:FRR E S Z j F T):∃ u,(∀ cF dF,zR E cF dF T S (.pick c a b)=some (u,S))∧VR E S Z j z u:=by
 have key:∀ (t:Bool) (u:Value),T.ev c=some (.bool t)→bf t (T.ev a) (T.ev b)=some u→∀ cF dF,zR E cF dF T S (.pick c a b)=some (u,S):=by
  intro t u h1 h2 cF dF
  show zG S (ob (ob (T.ev c) z3l) fun t=>bf t (T.ev a) (T.ev b))=_
  rw [h1]
  show zG S (bf t (T.ev a) (T.ev b))=_
  rw [h2];rfl
 unfold zgY at h
 split at h
 ·rename_i hc
  obtain ⟨v,h1,h2⟩:=hF.evr hc
  cases h2
  obtain ⟨x,h3,h4⟩:=z0i h;cases h4
  obtain ⟨u,h5,h6⟩:=hF.evr h3
  exact ⟨u,key true u h1 h5,h6⟩
 ·rename_i hc
  obtain ⟨v,h1,h2⟩:=hF.evr hc
  cases h2
  obtain ⟨x,h3,h4⟩:=z0i h;cases h4
  obtain ⟨u,h5,h6⟩:=hF.evr h3
  exact ⟨u,key false u h1 h5,h6⟩
 ·obtain ⟨ac,h1,h2⟩:=z0i h
  obtain ⟨aa,h3,h4⟩:=z0i h2
  obtain ⟨ab,h5,h6⟩:=z0i h4
  obtain ⟨vc,k1,k2⟩:=hF.ev h1
  obtain ⟨va,k3,k4⟩:=hF.ev h3
  obtain ⟨vb,k5,k6⟩:=hF.ev h5
  obtain ⟨t,rfl,h7⟩:=zjY h6 k2 k4 k6
  refine ⟨bf t va vb,key t _ k1 ?_,h7⟩
  rw [k3,k5]
  cases t <;> rfl
theorem zms {op:UnOp} {t:TypeId} {x:Operand} {z:AV} {obs:List Prop} (h:zqn F op x=some (obs,z)) (ho:∀ P∈obs,P) (hF:FRR E S Z j F T):∃ u,(∀ cF dF,zR E cF dF T S (.unOp op t x)=some (u,S))∧VR E S Z j z u:=by
 unfold zqn at h
 split at h
 ·rename_i b hb
  cases h
  obtain ⟨v,k1,k2⟩:=hF.evr hb
  cases k2
  refine ⟨.bool !b,fun cF dF=>?_,.lit _⟩
  show zG S (ob (T.ev x) fun a=>unL .not a)=_
  rw [k1];rfl
 ·obtain ⟨a,h1,h2⟩:=z0i h
  obtain ⟨v,k1,k2⟩:=hF.ev h1
  obtain ⟨u,h5,h6⟩:=zoD h2 ho k2
  refine ⟨u,fun cF dF=>?_,h6⟩
  show zG S (ob (T.ev x) fun a=>unL _ a)=_
  rw [k1]
  show zG S (unL _ v)=_
  rw [h5];rfl
theorem z6a {a:AV} {l:List AV} {v:Value} (h:zcP a=some l) (hv:VR E S Z j a v):VRs E S Z j l v.cells.toList∧v.cells.toList.all scalar=true:=by
 cases a with
 | agg cs=>cases h;cases hv with | agg hs hv=>exact ⟨hv,hs⟩
 | tup vs=>cases h
 | junk=>cases h
 | _ =>
  cases h
  have hs:=hv.scalar rfl
  have:v.cells = #[v]:=by cases v <;> first | rfl | cases hs
  rw [this]
  exact ⟨.cons hv .nil,by simp [hs]⟩
theorem zbn {cs vs r:List AV} {off:Nat} {ws us:List Value} (h:zeg cs off vs=some r) (hc:VRs E S Z j cs ws) (hv:VRs E S Z j vs us) (hs1:ws.all scalar=true) (hs2:us.all scalar=true):∃ q,paste ws off us=some q∧VRs E S Z j r q∧q.all scalar=true∧q.length=ws.length:=by
 unfold zeg at h
 cases hb:Nat.ble (off+vs.length) cs.length with
 | false=>rw [hb] at h;cases h
 | true =>
  rw [hb] at h;cases h
  have hle:=zF hb
  rw [hc.length,hv.length] at hle
  refine ⟨ws.take off++us++ws.drop (off+us.length),?_,?_,?_,?_⟩
  ·unfold paste
   rw [show Nat.ble (Nat.add off us.length) ws.length=true from z3m hle];rfl
  ·rw [hv.length]
   exact ((hc.take off).append hv).append (hc.drop _)
  ·simp only [List.all_append,hs2,z7T hs1,z7U hs1,Bool.and_self]
  ·simp;omega
theorem z7Z (hF:FRR E S Z j F T):∀ {ps:List (Nat×Operand)} {l:List (Nat×AV)},zbo F ps=some l→∃ vs,z3D T ps=some vs∧l.map (·.1)=vs.map (·.1)∧VRs E S Z j (l.map (·.2)) (vs.map (·.2))
 | [],l,h=>by cases h;exact ⟨[],rfl,rfl,.nil⟩
 | p::ps,l,h=>by
  simp only [zbo] at h
  split at h
  ·rename_i a l0 ha hl
   cases h
   obtain ⟨v,h1,h2⟩:=hF.ev ha
   obtain ⟨vs,h3,h4,h5⟩:=z7Z hF hl
   refine ⟨(p.1,v)::vs,?_,by simp [h4],.cons h2 h5⟩
   show ob (T.ev p.2) _=_
   rw [h1]
   show ob (z3D T ps) _=_
   rw [h3];rfl
  ·cases h
theorem zaa {place place':Nat→Option (Nat×Nat)} (hp:∀ i q,place i=some q→place' i=some q):∀ {l:List (Nat×AV)} {vs:List (Nat×Value)} {cs r:List AV} {ws:List Value},zh1 place cs l=some r→l.map (·.1)=vs.map (·.1)→VRs E S Z j (l.map (·.2)) (vs.map (·.2))→VRs E S Z j cs ws→ws.all scalar=true →
  ∃ q,z9n place' ws vs=some q∧VRs E S Z j r q∧q.all scalar=true∧q.length=ws.length
 | [],[],cs,r,ws,h,_,_,hc,hs=>by cases h;exact ⟨ws,rfl,hc,hs,rfl⟩
 | [],_::_,_,_,_,_,h,_,_,_=>by simp at h
 | _::_,[],_,_,_,_,h,_,_,_=>by simp at h
 | p::l,v::vs,cs,r,ws,h,hm,hv,hc,hs=>by
  simp only [List.map_cons,List.cons.injEq] at hm
  cases hv with
  | cons hv hvs =>
   simp only [zh1] at h
   split at h
   ·rename_i q cl hq hcl
    obtain ⟨h1,h2⟩:=z6a hcl hv
    cases hb:Nat.beq cl.length q.2 with
    | false=>rw [hb] at h;cases h
    | true =>
     rw [hb] at h
     simp only [cond_true] at h
     split at h
     ·rename_i c hpc
      obtain ⟨q1,h3,h4,h5,h6⟩:=zbn hpc hc h1 hs h2
      obtain ⟨q2,h7,h8,h9,h10⟩:=zaa hp h hm.2 hvs h4 h5
      refine ⟨q2,?_,h8,h9,h10.trans h6⟩
      unfold z9n
      rw [←hm.1,hp _ _ hq]
      show gd (Nat.beq v.2.cells.size q.2) (ob (paste ws q.1 v.2.cells.toList) _)=_
      rw [show Nat.beq v.2.cells.size q.2=true by rw [←Array.length_toList,←h1.length];exact hb,h3]
      exact h7
     ·cases h
   ·cases h
theorem zh6 {t:Nat} {parts:Array (Nat×Operand)} {z:AV} {obs:List Prop} (hT:zM E tb=true) (h:zh7 tb F t parts.toList=some (obs,z)) (hF:FRR E S Z j F T):∃ u,(∀ cF dF,zR E cF dF T S (.build t parts)=some (u,S))∧VR E S Z j z u:=by
 unfold zh7 at h
 split at h
 ·rename_i sz ag ints fs zs ps hi0 hps
  obtain ⟨i,hti⟩:=zN hT hi0
  obtain ⟨gs,hgs,hf,_⟩:=z4H hti.d
  split at h
  ·rename_i c hc
   cases h
   obtain ⟨vs,h1,h2,h3⟩:=z7Z hF hps
   have hz:=z2f (E:=E) (S:=S) (Z:=Z) hti.zero
   have hpl:∀ i q,zgW fs i=some q→z3w E gs i=some q:=by
    intro i q hq
    unfold zgW at hq
    split at hq
    ·rename_i q0 hq0
     cases hq
     obtain ⟨g,y,k1,k2,k3,k4,_⟩:=z5O hf hq0
     unfold z3w
     rw [k1]
     show ob (E.ti.get g.type) _=_
     rw [k3,←k2,←k4];rfl
    ·cases hq
   obtain ⟨q,h4,h5,h6,_⟩:=zaa hpl hc h2 h3 (hz.toV (j:=j)) hz.scalars
   refine ⟨.agg q.toArray,fun cF dF=>?_,.agg h6 h5⟩
   obtain ⟨d,s1,b1,z1,p1,a1⟩:=i
   change d=_ at hgs
   subst hgs
   show zG S (ob (E.ti.get t) _)=_
   rw [hti.get]
   show zG S (ob (z3D T parts.toList) _)=_
   rw [h1]
   show zG S (ob (z9n (z3w E gs) z1.cells.toList vs) _)=_
   rw [h4];rfl
  ·cases h
 ·cases h
theorem z8Y (k:Int):∀ (l:List (Int×Int)) (i:Nat),∃ r,z0T (.int .i64 k) (z90 l) i=some r∧r.map (·.2)=(zdt k l).map (Value.int .i64)
 | [],i=>⟨none,rfl,rfl⟩
 | p::l,i=>by
  have e:z0T (.int .i64 k) (z90 (p::l)) i=bf (k==p.1) (some (some (i,.int .i64 p.2))) (z0T (.int .i64 k) (z90 l) (i+1)):=rfl
  rw [e]
  unfold zdt
  cases k==p.1 with
  | true=>exact ⟨_,rfl,rfl⟩
  | false=>exact z8Y k l (i+1)
theorem zfm {i:LTy} (h:dOk E i .mapI=true):∃ k e x y,i.desc = .map k e∧E.ti.get k=some x∧x.desc = .int .i64∧E.ti.get e=some y∧y.zero = .int .i64 0:=by
 unfold dOk at h
 simp only at h
 split at h
 ·rename_i k e hd
  simp only [yw] at h
  obtain ⟨h1,h2⟩:=h
  unfold kOk at h1
  unfold zoB at h2
  cases hk:E.ti.get k with
  | none=>rw [hk] at h1;cases h1
  | some x =>
   cases he:E.ti.get e with
   | none=>rw [he] at h2;cases h2
   | some y =>
    rw [hk] at h1
    rw [he] at h2
    have h1:ziu x.desc=true:=h1
    have h2:znC y.zero=true:=h2
    refine ⟨k,e,x,y,hd,hk,?_,he,?_⟩
    ·unfold ziu at h1
     split at h1
     ·assumption
     ·cases h1
    ·unfold znC at h2
     split at h2
     ·rename_i n hz;rw [hz,of_decide_eq_true h2]
     ·cases h2
 ·cases h
theorem zcH (a b:Nat):(Int.ofNat a==Int.ofNat b)=Nat.beq b a:=by
 by_cases h:a=b
 ·subst h;rw [Nat.beq_refl,beq_self_eq_true]
 ·rw [beq_false_of_ne (show Int.ofNat a≠Int.ofNat b from fun e=>h (Int.ofNat_inj.1 e)),z0B (show b≠a from fun e=>h e.symm)]
theorem z4G (k:Nat):∀ (l:List (Nat×Value)) (i:Nat),∃ r,z0T (.int .i64 (Int.ofNat k)) (z4Q l) i=some r∧r.map (·.2)=z1A k l
 | [],i=>⟨none,rfl,rfl⟩
 | p::l,i=>by
  have e:z0T (.int .i64 (Int.ofNat k)) (z4Q (p::l)) i=bf (Int.ofNat k==Int.ofNat p.1) (some (some (i,p.2))) (z0T (.int .i64 (Int.ofNat k)) (z4Q l) (i+1)):=rfl
  rw [e,zcH]
  unfold z1A
  cases Nat.beq p.1 k with
  | true=>exact ⟨_,rfl,rfl⟩
  | false=>exact z4G k l (i+1)
theorem zf2 {t b k:Nat} {ti xk xe:LTy} {kt et:TypeId} {l:List (Nat×Value)} (ht:E.ti.get t=some ti) (hd:ti.desc = .map kt et) (hgk:E.ti.get kt=some xk) (hdk:xk.desc = .int .i64) (hge:E.ti.get et=some xe) (hh:S.heap.get b=some (.map (z4Q l))) (ok:Bool) :
  z0n E t (.map (some b)) (.int .i64 (Int.ofNat k)) ok S=some (bf ok (.tuple #[(z1A k l).getD xe.zero,.bool (z1A k l).isSome]) ((z1A k l).getD xe.zero)):=by
 obtain ⟨r,h4,h5⟩:=z4G k l 0
 unfold z0n
 rw [ht]
 show ob (mapD ti.desc) _=_
 rw [hd]
 show ob (E.ti.get kt) _=_
 rw [hgk]
 show ob (E.ti.get et) _=_
 rw [hge]
 show ob (ob (S.heap.get b) z8x) _=_
 rw [hh]
 show gd (zy xk.desc _) (ob (z0T (.int .i64 (Int.ofNat k)) (z4Q l) 0) _)=_
 rw [hdk,h4]
 show some (bf ok (.tuple #[(r.map (·.2)).getD xe.zero,.bool r.isSome]) ((r.map (·.2)).getD xe.zero))=_
 rw [h5,show r.isSome=(z1A k l).isSome by rw [←h5];cases r <;> rfl]
theorem zdA {t:Nat} {k:Int} {ti xk xe:LTy} {kt et:TypeId} (ht:E.ti.get t=some ti) (hd:ti.desc = .map kt et) (hgk:E.ti.get kt=some xk) (hdk:xk.desc = .int .i64) (hge:E.ti.get et=some xe) (ok:Bool) :
  z0n E t (.map none) (.int .i64 k) ok S=some (bf ok (.tuple #[xe.zero,.bool false]) xe.zero):=by
 unfold z0n
 rw [ht]
 show ob (mapD ti.desc) _=_
 rw [hd]
 show ob (E.ti.get kt) _=_
 rw [hgk]
 show ob (E.ti.get et) _=_
 rw [hge]
 show gd (zy xk.desc _) _=_
 rw [hdk];rfl
theorem zfI {t:Nat} {x k z:AV} {ok:Bool} {obs:List Prop} {v w:Value} (hT:zM E tb=true) (h:zd3 tb L t x k ok=some (obs,z)) (ho:∀ P∈obs,P) (hS:SR E S Z j L) (hx:VR E S Z j x v) (hk:VR E S Z j k w):∃ u,z0n E t v w ok S=some u∧VR E S Z j z u:=by
 unfold zd3 at h
 split at h
 ·rename_i sz ag zs b q hi0
  obtain ⟨i,hti⟩:=zN hT hi0
  obtain ⟨kt,et,xk,xe,hd,hgk,hdk,hge,hz⟩:=zfm hti.d
  split at h
  ·rename_i f hb
   cases hx with
   | map hj =>
    rename_i b'
    obtain ⟨b2,h1,l,h2,h3⟩:=hS.blk _ _ hb id
    obtain rfl:b'=b2:=Option.some.inj (hj.symm.trans h1)
    cases hk with
    | p hk =>
     cases hk
     obtain ⟨r,h4,h5⟩:=z8Y q l 0
     have e1:(r.map (·.2)).getD xe.zero = .int .i64 ((f q).getD 0):=by
      rw [h5,h3,hz]
      cases f q <;> rfl
     have e2:r.isSome=(f q).isSome:=by
      have:=congrArg Option.isSome h5
      rw [h3] at this
      simpa using this
     have e:z0n E t (.map (some b')) (.int .i64 q) ok S=some (bf ok (.tuple #[.int .i64 ((f q).getD 0),.bool (f q).isSome]) (.int .i64 ((f q).getD 0))):=by
      unfold z0n
      rw [hti.get]
      show ob (mapD i.desc) _=_
      rw [hd]
      show ob (E.ti.get kt) _=_
      rw [hgk]
      show ob (E.ti.get et) _=_
      rw [hge]
      show ob (ob (S.heap.get b') z8x) _=_
      rw [h2]
      show gd (zy xk.desc _) (ob (z0T (.int .i64 q) (z90 l) 0) _)=_
      rw [hdk,h4]
      show some (bf ok (.tuple #[(r.map (·.2)).getD xe.zero,.bool r.isSome]) ((r.map (·.2)).getD xe.zero))=_
      rw [e1,e2]
     refine ⟨_,e,?_⟩
     cases ok with
     | true=>cases h;exact .tup (.cons (.p (.int _ _)) (.cons (.p (.bool _)) .nil))
     | false=>cases h;exact .p (.int _ _)
  ·cases h
 ·rename_i sz ag z0 zs b q hi0
  obtain ⟨i,hti⟩:=zN hT hi0
  obtain ⟨kt,et,xk,xe,hd,hgk,hdk,hge,hz⟩:=z5U hti.d
  split at h
  ·rename_i m p hb
   cases hx with
   | map hj =>
    rename_i b'
    obtain ⟨b2,h1,l,h2,h3,h4⟩:=hS.blk _ _ hb id
    obtain rfl:b'=b2:=Option.some.inj (hj.symm.trans h1)
    cases hk with
    | p hk =>
     cases hk
     obtain ⟨h5,h6⟩:=h4 q
     have h5:(z1A q l).isSome=(p q).isSome:=h5
     have hv:VR E S Z j (.p ((p q).getD z0)) ((z1A q l).getD xe.zero):=by
      cases hm:z1A q l with
      | none =>
       rw [hm] at h5
       cases hp:p q with
       | none=>exact .p (zec hz)
       | some x=>rw [hp] at h5;cases h5
      | some v =>
       rw [hm] at h5
       have h7:VR E S Z j (.p ((p q).getD .nilp)) v:=h6 v hm
       cases hp:p q with
       | none=>rw [hp] at h5;cases h5
       | some x=>rw [hp] at h7;exact h7
     refine ⟨_,zf2 hti.get hd hgk hdk hge h2 ok,?_⟩
     rw [h5]
     cases ok with
     | true=>cases h;exact .tup (.cons hv (.cons (.p (.bool _)) .nil))
     | false=>cases h;exact hv
  ·rename_i m p q' a xs hb
   cases hx with
   | map hj =>
    rename_i b'
    obtain ⟨b2,h1,l,h2,h3,h4⟩:=hS.blk _ _ hb id
    obtain rfl:b'=b2:=Option.some.inj (hj.symm.trans h1)
    cases hk with
    | p hk =>
     cases hk
     obtain ⟨h5,h6⟩:=h4 q
     have hq:q'=q:=by
      cases ok with
      | true=>cases h;exact ho _ (List.mem_cons_self ..)
      | false=>cases h;exact ho _ (List.mem_cons_self ..)
     subst hq
     have h5:(z1A q' l).isSome=true:=by rw [h5];unfold zci;rw [Nat.beq_refl];rfl
     have hv:VR E S Z j a ((z1A q' l).getD xe.zero):=by
      cases hm:z1A q' l with
      | none=>rw [hm] at h5;cases h5
      | some v =>
       have:=h6 v hm
       unfold z5L at this
       rw [Nat.beq_refl] at this
       exact this
     refine ⟨_,zf2 hti.get hd hgk hdk hge h2 ok,?_⟩
     rw [h5]
     cases ok with
     | true=>cases h;exact .tup (.cons hv (.cons (.p (.bool _)) .nil))
     | false=>cases h;exact hv
  ·cases h
 ·rename_i sz ag z0 zs q hi0
  obtain ⟨i,hti⟩:=zN hT hi0
  obtain ⟨kt,et,xk,xe,hd,hgk,hdk,hge,hz⟩:=z5U hti.d
  cases hx with
  | p hx =>
   cases hx
   cases hk with
   | p hk =>
    cases hk
    refine ⟨_,zdA hti.get hd hgk hdk hge ok,?_⟩
    cases ok with
    | true=>cases h;exact .tup (.cons (.p (zec hz)) (.cons (.p (.bool _)) .nil))
    | false=>cases h;exact .p (zec hz)
 ·cases h
theorem zk0 {x z:AV} {str:Bool} {obs:List Prop} {v:Value} (h:zmz L x str=some (obs,z)) (hS:SR E S Z j L) (hx:VR E S Z j x v):∃ u,z6Y v str S=some (u,S)∧VR E S Z j z u:=by
 unfold zmz at h
 split at h
 ·rename_i i
  split at h
  ·rename_i hb
   cases h
   cases hx with
   | ref hj =>
    obtain ⟨b',h1,h2⟩:=hS.blk _ _ hb id
    rw [hj] at h1;cases h1
    refine ⟨.tuple #[.bool false],?_,.tup (.cons (.p (.bool _)) .nil)⟩
    unfold z6Y
    show gd (Nat.beq 0 0) (ob (S.heap.get _) _)=_
    rw [h2];rfl
  ·cases h
 ·cases h
theorem zmw {o:Op} {z:AV} {obs:List Prop} (hT:zM E tb=true) (h:zmx tb F L o=some (obs,z)) (ho:∀ P∈obs,P) (hS:SR E S Z j L) (hF:FRR E S Z j F T):∃ u,(∀ cF dF,zR E cF dF T S o=some (u,S))∧VR E S Z j z u:=by
 cases o with
 | move x =>
  obtain ⟨a,h1,h2⟩:=z0i h;cases h2
  obtain ⟨v,h3,h4⟩:=hF.evr h1
  exact ⟨v,fun cF dF=>by show zG S (T.ev x)=_;rw [h3];rfl,h4⟩
 | assign x =>
  obtain ⟨a,h1,h2⟩:=z0i h;cases h2
  obtain ⟨v,h3,h4⟩:=hF.evr h1
  exact ⟨v,fun cF dF=>by show zG S (T.ev x)=_;rw [h3];rfl,h4⟩
 | pick c a b=>exact zgX h hF
 | load t a =>
  obtain ⟨x,h1,h2⟩:=z0i h
  obtain ⟨v,h3,h4⟩:=hF.ev h1
  obtain ⟨p,u,rfl,h5,h6⟩:=zek hT h2 ho hS h4
  refine ⟨u,fun cF dF=>?_,h6⟩
  show zG S (ob (ob (T.ev a) addrOf) fun p=>z0e E t p S)=_
  rw [h3]
  show zG S (z0e E t p S)=_
  rw [h5];rfl
 | nilCheck x =>
  obtain ⟨a,h1,h2⟩:=z0i h
  obtain ⟨v,h3,h4⟩:=hF.ev h1
  obtain ⟨h5,h6⟩:=zmy h2 h4
  exact ⟨v,fun cF dF=>by show zG S (ob (T.ev x) z4I)=_;rw [h3];show zG S (z4I v)=_;rw [h5];rfl,h6⟩
 | build t parts=>exact zh6 hT h hF
 | binOp op t x y g =>
  obtain ⟨a,h1,h2⟩:=z0i h
  obtain ⟨b,h3,h4⟩:=z0i h2
  obtain ⟨v,k1,k2⟩:=hF.ev h1
  obtain ⟨w,k3,k4⟩:=hF.ev h3
  obtain ⟨u,h5,h6⟩:=zh8 hT h4 ho k2 k4
  refine ⟨u,fun cF dF=>?_,h6⟩
  show zG S (ob (T.ev x) fun a=>ob (T.ev y) fun b=>zY E op t a b)=_
  rw [k1,k3]
  show zG S (zY E op t v w)=_
  rw [h5];rfl
 | unOp op t x=>exact zms h ho hF
 | convert src dst x =>
  obtain ⟨a,h1,h2⟩:=z0i h
  obtain ⟨v,k1,k2⟩:=hF.ev h1
  obtain ⟨i,k,u,h3,h4,h5,h6⟩:=zk2 hT h2 ho k2
  refine ⟨u,fun cF dF=>?_,h6⟩
  show zG S (ob (E.ti.get src) fun _=>ob (T.ev x) fun a=>ob (E.ti.get dst) fun i=>z97 i.desc a)=_
  rw [h3,k1,h4]
  show zG S (z97 k.desc v)=_
  rw [h5];rfl
 | makeFunc fn first cap =>
  cases fn with
  | func f =>
   simp only [zmx] at h
   split at h
   ·rename_i a b ha hb
    cases h
    obtain ⟨va,k1,k2⟩:=hF.evs ha
    obtain ⟨vb,k3,k4⟩:=hF.evs hb
    refine ⟨.func (.func f) va.toArray vb.toArray,fun cF dF=>?_,.fn k2 k4⟩
    show zG S (ob (T.evs first.toList) _)=_
    rw [k1]
    show zG S (ob (T.evs cap.toList) _)=_
    rw [k3];rfl
   ·cases h
  | _=>cases h
 | slice t x lo hi mx =>
  obtain ⟨a,h1,h2⟩:=z0i h
  obtain ⟨v,k1,k2⟩:=hF.ev h1
  have:∃ u,z2d E t v T lo hi mx S=some u∧VR E S Z j z u:=by
   cases mx with
   | none=>exact zgS hT h2 ho hS hF k2
   | some m=>exact zfG hT h2 hS hF k2
  obtain ⟨u,h5,h6⟩:=this
  refine ⟨u,fun cF dF=>?_,h6⟩
  show zG S (ob (T.ev x) fun v=>z2d E t v T lo hi mx S)=_
  rw [k1]
  show zG S (z2d E t v T lo hi mx S)=_
  rw [h5];rfl
 | fieldAddr t x f =>
  obtain ⟨a,h1,h2⟩:=z0i h
  obtain ⟨v,k1,k2⟩:=hF.ev h1
  obtain ⟨u,h5,h6⟩:=zab hT h2 k2
  refine ⟨u,fun cF dF=>?_,h6⟩
  show zG S (ob (T.ev x) fun v=>z1n E t v f)=_
  rw [k1]
  show zG S (z1n E t v f)=_
  rw [h5];rfl
 | field t x f =>
  obtain ⟨a,h1,h2⟩:=z0i h
  obtain ⟨v,k1,k2⟩:=hF.ev h1
  obtain ⟨u,h5,h6⟩:=zh2 hT h2 k2
  refine ⟨u,fun cF dF=>?_,h6⟩
  show zG S (ob (T.ev x) fun v=>z9U E t v f)=_
  rw [k1]
  show zG S (z9U E t v f)=_
  rw [h5];rfl
 | indexAddr t x i =>
  obtain ⟨a,h1,h2⟩:=z0i h
  obtain ⟨b,h3,h4⟩:=z0i h2
  obtain ⟨v,k1,k2⟩:=hF.ev h1
  obtain ⟨w,k3,k4⟩:=hF.ev h3
  obtain ⟨u,h5,h6⟩:=za9 hT h4 ho k2 k4
  refine ⟨u,fun cF dF=>?_,h6⟩
  show zG S (ob (T.ev x) fun v=>ob (T.ev i) fun i=>z0P E t v i)=_
  rw [k1,k3]
  show zG S (z0P E t v w)=_
  rw [h5];rfl
 | index t x i =>
  obtain ⟨a,h1,h2⟩:=z0i h
  obtain ⟨b,h3,h4⟩:=z0i h2
  obtain ⟨v,k1,k2⟩:=hF.ev h1
  obtain ⟨w,k3,k4⟩:=hF.ev h3
  obtain ⟨u,h5,h6⟩:=zgZ hT h4 ho k2 k4
  refine ⟨u,fun cF dF=>?_,h6⟩
  show zG S (ob (T.ev x) fun v=>ob (T.ev i) fun i=>z8N E t v i)=_
  rw [k1,k3]
  show zG S (z8N E t v w)=_
  rw [h5];rfl
 | lookup t x k ok =>
  obtain ⟨a,h1,h2⟩:=z0i h
  obtain ⟨b,h3,h4⟩:=z0i h2
  obtain ⟨v,k1,k2⟩:=hF.ev h1
  obtain ⟨w,k3,k4⟩:=hF.ev h3
  obtain ⟨u,h5,h6⟩:=zfI hT h4 ho hS k2 k4
  refine ⟨u,fun cF dF=>?_,h6⟩
  show zG S (ob (T.ev x) fun m=>ob (T.ev k) fun i=>z0n E t m i ok S)=_
  rw [k1,k3]
  show zG S (z0n E t v w ok S)=_
  rw [h5];rfl
 | extract x i =>
  obtain ⟨a,h1,h2⟩:=z0i h
  obtain ⟨v,k1,k2⟩:=hF.ev h1
  obtain ⟨vs,u,rfl,h5,h6⟩:=zd4 h2 k2
  refine ⟨u,fun cF dF=>?_,h6⟩
  show zG S (ob (T.ev x) _)=_
  rw [k1]
  show zG S (vs.toList[i]?)=_
  rw [h5];rfl
 | next x str =>
  obtain ⟨a,h1,h2⟩:=z0i h
  obtain ⟨v,k1,k2⟩:=hF.ev h1
  obtain ⟨u,h5,h6⟩:=zk0 h2 hS k2
  refine ⟨u,fun cF dF=>?_,h6⟩
  show ob (T.ev x) (fun v=>z6Y v str S)=_
  rw [k1]
  exact h5
 | call c=>exact zbp hT h hS hF
 | _=>cases h
end
noncomputable section
def nx:VS→Nat
 | []=>0
 | (i,_)::l=>bif Nat.ble (nx l) i then i+1 else nx l
def up:VS→Nat→VB→VS
 | [],_,_=>[]
 | (s,v)::l,i,w=>bif Nat.beq s i then (s,w)::l else (s,v)::up l i w
def rm:VS→Nat→VS
 | [],_=>[]
 | (s,v)::l,i=>bif Nat.beq s i then rm l i else (s,v)::rm l i
def unp:List AV→Option (List PV)
 | []=>some []
 | .p x::l=>match unp l with
  | some r=>some (x::r)
  | none=>none
 | _::_=>none
def zno (b i:Nat):Bool:=!Nat.beq i b
def z6W (b:Nat) (a:AV):AV:=bif a.only (zno b) then a else .junk
def zbH (b:Nat):List AV→List AV
 | []=>[]
 | a::l=>z6W b a::zbH b l
def purgeA (b:Nat) (a:AV):AV:=match a with
 | .p x=>.p x
 | .agg cs=>.agg (zbH b cs)
 | .tup cs=>.tup (zbH b cs)
 | a=>z6W b a
def z6V (b:Nat):VK→VK
 | []=>[]
 | (t,a)::l=>(t,purgeA b a)::z6V b l
def z8n (b:Nat):List (Nat×AV)→List (Nat×AV)
 | []=>[]
 | (i,a)::l=>(i,z6W b a)::z8n b l
def zeH (b:Nat):VB→VB
 | .cells cs t=>.cells (zbH b cs) t
 | .arr n sz f t=>.arr n sz f t
 | .loop st pd G N ps asg body=>.loop st pd (z6V b G) N ps asg body
 | .acc n sz f t=>.acc n sz f t
 | .mapI f=>.mapI f
 | .hdr n p xs t=>.hdr n p (z8n b xs) t
 | .oarr w n sz f t=>.oarr w n sz f t
 | .mapA m p xs=>.mapA m p (z8n b xs)
 | .itr o=>.itr o
def z3J (b:Nat):VS→VS
 | []=>[]
 | (i,v)::l=>(i,zeH b v)::z3J b l
structure VOut where
 ob:List Prop
 F:VK
 a:AV
 L:VS
 kind:Nat
 at_:Nat
def zem (tb:Tab) (F:VK) (L:VS) (q0:Nat) (t:Nat):Option VOut:=match z3O tb t with
 | some i=>some ⟨[],F,.ref (q0) 0,(q0,.cells (i.zero.map .p) t)::L,0,0⟩
 | none=>none
def zqq (F:VK) (L:VS) (q0:Nat) (t:Nat) (x:AV):Option VOut:=match zcP x with
 | some cs=>some ⟨[],F,.ref (q0) 0,(q0,.cells cs t)::L,0,0⟩
 | none=>none
def zgP (z:List PV):Nat→List PV
 | 0=>[]
 | n+1=>z++zgP z n
def z3p (tb:Tab) (F:VK) (L:VS) (q0:Nat) (z:Bool) (t len:Nat) (parts:List (Nat×Operand)):Option VOut:=match z3O tb t with
 | some ⟨_,_,.slice elem esz,_⟩=>match z3O tb elem,zbo F parts with
  | some e,some ps=>bif Nat.ble (len*esz) 16777216 then (match zh1 (fun i=>some (i*esz,esz)) ((zgP e.zero len).map .p) ps with
   | some c=>match unp c with
    | some l=>match len with
     | 0=>some ⟨[],F,.sl (q0) esz 0 0 0 2,(q0,.arr 0 esz (fun _=>[]) elem)::L,0,0⟩
     | _+1=>bif z then some ⟨[],F,.sl (q0) esz 0 len len 2,(q0,.arr len esz (fun k=>(l.drop (k*esz)).take esz) elem)::L,0,0⟩ else some ⟨[],F,.p (.lst elem false len fun k=>(l.drop (k*esz)).take esz),L,0,0⟩
    | none=>none
   | none=>none) else none
  | _,_=>none
 | _=>none
def z6k (tb:Tab) (F:VK) (L:VS) (q0:Nat) (t:Nat) (x y:AV):Option VOut:=match z3O tb t,x,y with
 | some ⟨_,_,.slice elem esz,_⟩,.p (.int _ (.ofNat n)),.p (.int _ (.ofNat c))=>match z3O tb elem with
  | some e=>some ⟨[n≤c,c≤1048576],F,.sl (q0) esz 0 n c 1,(q0,.arr c esz (fun _=>e.zero) elem)::L,0,0⟩
  | none=>none
 | _,_,_=>none
def zbJ (cs:List PV) (off:Nat) (vs:List PV):List PV:=cs.take off++vs++cs.drop (off+vs.length)
def zgR (tb:Tab) (F:VK) (L:VS) (t:Nat) (a x:AV):Option VOut:=match z3O tb t,zcP x with
 | some i,some l=>bif Nat.beq l.length i.size then (match a with
  | .ref b off=>match bk L b with
   | some (.cells cs ty)=>match zeg cs off l with
    | some c=>some ⟨[],F,.junk,up L b (.cells c ty),1,b⟩
    | none=>none
   | _=>none
  | .el b sz k off=>match bk L b with
   | some (.hdr n p xs ty)=>bif i.agg then none else (match x,xs with
    | .p q,[]=>some ⟨[k<n,sz=1,off=0],F,.junk,up L b (.hdr n (fun i=>bif Nat.beq i k then q else p i) [] ty),1,b⟩
    | x,xs=>some ⟨[k<n,sz=1,off=0,x.flat=true],F,.junk,up L b (.hdr n p ((k,x)::xs) ty),1,b⟩)
   | _=>match bk L b,unp l with
   | some (.arr n sz' f ty),some q=>some ⟨[k<n,sz=sz',off+q.length≤sz],F,.junk,up L b (.arr n sz' (fun i=>bif Nat.beq i k then zbJ (f k) off q else f i) ty),1,b⟩
   | some (.acc n sz' f ty),some q=>some ⟨[k<n,sz=sz',off+q.length≤sz],F,.junk,up L b (.acc n sz' (fun i=>bif Nat.beq i k then zbJ (f k) off q else f i) ty),1,b⟩
   | _,_=>none
  | _=>none) else none
 | _,_=>none
def zqT:AV→Bool
 | .p (.lst _ _ _ _)=>true
 | .p .emp=>true
 | .sl _ _ _ _ _ _=>true
 | .acc _ _ _ _=>true
 | _=>false
def zd5 (tb:Tab) (F:VK) (L:VS) (q0:Nat) (z:Bool) (t u:Nat) (s x:AV):Option VOut:=match z3O tb t,z3O tb u,x with
 | some ⟨_,_,.slice elem esz,_⟩,some ⟨_,_,.slice _ _,_⟩,.p (.lst _ _ k f)=>bif z then (bif zqT s then some ⟨[k=0],F,s,L,0,0⟩ else none) else (match s with
  | .p (.lst _ true 0 _)=>some ⟨[0<k,k≤1048576,∀ i,i<k→(f i).length=esz],F,.sl (q0) esz 0 k k 0,(q0,.arr k esz f elem)::L,0,0⟩
  | .p .emp=>some ⟨[0<k,k≤1048576,∀ i,i<k→(f i).length=esz],F,.sl (q0) esz 0 k k 0,(q0,.arr k esz f elem)::L,0,0⟩
  | .sl b sz off n c ex=>match bk L b with
   | some (.arr m sz' g t')=>bif Nat.beq ex 1 then
     some ⟨[0<k,n+k≤1048576,∀ i,i<k→(f i).length=esz,sz=esz,sz'=esz,n+k≤c,off+n+k≤m],F,.sl b sz off (n+k) c ex,up L b (.arr m sz' (fun i=>bif Nat.ble (off+n) i&&Nat.blt i (off+n+k) then f (i - (off+n)) else g i) t'),1,b⟩
    else bif Nat.beq t' elem then
     some ⟨[0<k,n+k≤1048576,∀ i,i<k→(f i).length=esz,sz=esz,sz'=esz,c<n+k,off+n≤m],z6V b F,.sl (q0) esz 0 (n+k) (n+k) 0,
      (q0,.arr (n+k) esz (fun i=>bif Nat.blt i n then g (off+i) else f (i - n)) elem)::z3J b (rm L b),2,b⟩
    else none
   | _=>none
  | .acc nb b sz n=>match bk L b with
   | some (.acc m sz' g t')=>bif Nat.beq t' elem then
     some ⟨[0<k,n+k≤1048576,∀ i,i<k→(f i).length=esz,sz=esz,sz'=esz,n=m],z6V b F,.acc true q0 esz (n+k),
      (q0,.acc (n+k) esz (fun i=>bif Nat.blt i n then g i else f (i - n)) elem)::z3J b (rm L b),2,b⟩
    else none
   | _=>none
  | _=>none)
 | _,_,_=>none
def zh5 (tb:Tab) (F:VK) (L:VS) (q0:Nat) (t:Nat) (s:AV):Option VOut:=match z3O tb t,s with
 | some ⟨_,_,.slice elem esz,_⟩,.sl b sz off n _ _=>match z3O tb elem,bk L b with
  | some e,some (.arr m sz' g t')=>some ⟨[off+n≤m,sz=esz,sz'=esz],F,.tup [],up L b (.arr m sz' (fun i=>bif Nat.ble off i&&Nat.blt i (off+n) then e.zero else g i) t'),2,q0⟩
  | _,_=>none
 | _,_=>none
def z7z (tb:Tab) (F:VK) (L:VS) (q0:Nat) (t:Nat):Option VOut:=match z3O tb t with
 | some ⟨_,_,.mapI,_⟩=>some ⟨[],F,.map q0,(q0,.mapI fun _=>none)::L,0,0⟩
 | some ⟨_,_,.mapA _,_⟩=>some ⟨[],F,.map q0,(q0,.mapA (some 0) (fun _=>none) [])::L,0,0⟩
 | _=>none
def zgV (tb:Tab) (F:VK) (L:VS) (q0:Nat) (t:Nat) (x:AV):Option VOut:=match z3O tb t,x with
 | some ⟨_,_,.mapA _,_⟩,.p .nilm=>some ⟨[],F,.ref q0 0,(q0,.itr none)::L,0,0⟩
 | _,_=>none
def zd1 (tb:Tab) (F:VK) (L:VS) (t:Nat) (m k v:AV):Option VOut:=match z3O tb t,m,k,v with
 | some ⟨_,_,.mapI,_⟩,.map i,.p (.int .i64 a),.p (.int .i64 b)=>match bk L i with
  | some (.mapI f)=>some ⟨[],F,.junk,up L i (.mapI fun q=>bif q==a then some b else f q),1,i⟩
  | _=>none
 | some ⟨_,_,.mapA _,_⟩,.map i,.p (.int .i64 (.ofNat a)),v=>match bk L i,v with
  | some (.mapA m p []),.p q=>some ⟨[],F,.junk,up L i (.mapA (m.map fun n=>bif (p a).isSome then n else n+1) (fun k=>bif Nat.beq a k then some q else p k) []),1,i⟩
  | some (.mapA m p xs),v=>some ⟨[v.flat=true],F,.junk,up L i (.mapA (m.map fun n=>bif zci p xs a then n else n+1) p ((a,v)::xs)),1,i⟩
  | _,_=>none
 | _,_,_,_=>none
def z0L {α : Type} (n:Nat) (k:Nat→α) : α :=bif Nat.beq n 0 then k 0 else bif Nat.beq n 1 then k 1 else bif Nat.beq n 2 then k 2 else bif Nat.beq n 3 then k 3 else bif Nat.beq n 4 then k 4 else bif Nat.beq n 5 then k 5 else bif Nat.beq n 6 then k 6 else bif Nat.beq n 7 then k 7 else bif Nat.beq n 8 then k 8 else bif Nat.beq n 9 then k 9 else bif Nat.beq n 10 then k 10 else bif Nat.beq n 11 then k 11 else bif Nat.beq n 12 then k 12 else bif Nat.beq n 13 then k 13 else bif Nat.beq n 14 then k 14 else bif Nat.beq n 15 then k 15 else bif Nat.beq n 16 then k 16 else bif Nat.beq n 17 then k 17 else bif Nat.beq n 18 then k 18 else bif Nat.beq n 19 then k 19 else k n
theorem zpT {α : Type} {n m:Nat} {x y z : α} (h1:n=m→x=z) (h2:y=z):(bif Nat.beq n m then x else y)=z:=by
 cases hb:Nat.beq n m with
 | true=>exact h1 (zm hb)
 | false=>exact h2
theorem z0K {α : Type} (n:Nat) (k:Nat→α):z0L n k=k n:=by
 unfold z0L
 iterate 20
  refine zpT (fun e=>by subst e;rfl) ?_
 rfl
def zgH (tb:Tab) (F:VK) (L:VS) (z:Bool):Op→Option VOut
 | .alloc t=>z0L (nx L) fun q=>zem tb F L q t
 | .box t x=>match av F x with
  | some a=>z0L (nx L) fun q=>zqq F L q t a
  | none=>none
 | .buildSlice t len parts=>z0L (nx L) fun q=>z3p tb F L q z t len parts.toList
 | .makeSlice t x y=>match av F x,av F y with
  | some a,some b=>z0L (nx L) fun q=>z6k tb F L q t a b
  | _,_=>none
 | .store t a x=>match av F a,av F x with
  | some a,some b=>zgR tb F L t a b
  | _,_=>none
 | .makeMap t none=>z0L (nx L) fun q=>z7z tb F L q t
 | .range t x=>match av F x with
  | some a=>z0L (nx L) fun q=>zgV tb F L q t a
  | none=>none
 | .mapUpdate t m k v=>match av F m,av F k,av F v with
  | some a,some b,some c=>zd1 tb F L t a b c
  | _,_,_=>none
 | .call c=>match c.callee,c.argTypes.toList,avs F c.args.toList with
  | .builtin .append,[t,u],some [s,x]=>z0L (nx L) fun q=>zd5 tb F L q z t u s x
  | .builtin .clear,[t],some [s]=>z0L (nx L) fun q=>zh5 tb F L q t s
  | _,_,_=>none
 | _=>none
theorem zg5:∀ {L:VS} {i:Nat} {v:VB},bk L i=some v→i<nx L
 | [],i,v,h=>by cases h
 | (s,w)::l,i,v,h=>by
  simp only [bk] at h
  have hs:s<nx ((s,w)::l):=by
   simp only [nx]
   cases hb:Nat.ble (nx l) s with
   | true=>simp
   | false =>
    have:¬ nx l≤s:=fun hle=>by rw [z3m hle] at hb;cases hb
    simp;omega
  by_cases e:s=i
  ·rw [←e];exact hs
  ·rw [show Nat.beq s i=false by rw [Tr.beq_def];simpa using e] at h
   have h1:=zg5 (L:=l) h
   simp only [nx]
   cases hb:Nat.ble (nx l) s with
   | true=>have:=zF hb;simp;omega
   | false=>simpa using h1
theorem zpR (L:VS):bk L (nx L)=none:=by
 cases h:bk L (nx L) with
 | none=>rfl
 | some v=>exact absurd (zg5 h) (Nat.lt_irrefl _)
theorem zA {i k:Nat} {v:VB} {L:VS}:bk ((i,v)::L) k=if k=i then some v else bk L k:=by
 simp only [bk,Tr.beq_def]
 by_cases e:i=k
 ·subst e;simp
 ·simp [e,show ¬ k=i from fun h=>e h.symm]
theorem z9r:∀ {L:VS} {i:Nat} {v w:VB},bk L i=some w→∀ k,bk (up L i v) k=if k=i then some v else bk L k
 | [],i,v,w,h,k=>by cases h
 | (s,x)::l,i,v,w,h,k=>by
  simp only [bk,up] at h ⊢
  by_cases e:s=i
  ·subst e
   simp only [Nat.beq_refl,cond_true]
   rw [zA]
   by_cases e2:k=s
   ·simp [e2]
   ·rw [if_neg e2,if_neg e2,show Nat.beq s k=false by rw [Tr.beq_def];simpa using fun h=>e2 h.symm];rfl
  ·rw [show Nat.beq s i=false by rw [Tr.beq_def];simpa using e] at h ⊢
   simp only [cond_false] at h ⊢
   rw [zA]
   by_cases e2:k=s
   ·subst e2;simp [e]
   ·rw [if_neg e2,z9r h k,show Nat.beq s k=false by rw [Tr.beq_def];simpa using fun h=>e2 h.symm];rfl
theorem zb8:∀ {L:VS} {i k:Nat},bk (rm L i) k=if k=i then none else bk L k
 | [],i,k=>by simp [rm,bk]
 | (s,x)::l,i,k=>by
  simp only [rm]
  by_cases e:s=i
  ·subst e
   simp only [Nat.beq_refl,cond_true]
   rw [zb8,zA]
   by_cases e2:k=s
   ·simp [e2]
   ·simp [e2]
  ·rw [show Nat.beq s i=false by rw [Tr.beq_def];simpa using e]
   simp only [cond_false]
   rw [zA,zA,zb8]
   by_cases e2:k=s
   ·subst e2;simp [e]
   ·simp [e2]
theorem z5W {b:Nat}:∀ {L:VS} {k:Nat} {v:VB},bk (z3J b L) k=some v→∃ w,bk L k=some w∧v=zeH b w
 | [],k,v,h=>by cases h
 | (s,x)::l,k,v,h=>by
  simp only [z3J,bk] at h ⊢
  by_cases e:s=k
  ·subst e
   simp only [Nat.beq_refl,cond_true] at h ⊢
   cases h;exact ⟨x,rfl,rfl⟩
  ·rw [show Nat.beq s k=false by rw [Tr.beq_def];simpa using e] at h ⊢
   exact z5W h
theorem z2T {b:Nat}:∀ {L:VS} {k:Nat},bk (z3J b L) k=none→bk L k=none
 | [],k,h=>rfl
 | (s,x)::l,k,h=>by
  simp only [z3J,bk] at h ⊢
  by_cases e:s=k
  ·subst e;simp at h
  ·rw [show Nat.beq s k=false by rw [Tr.beq_def];simpa using e] at h ⊢
   exact z2T h
theorem zcO {b:Nat}:∀ {F:VK} {k:Nat} {v:AV},ak (z6V b F) k=some v→∃ w,ak F k=some w∧v=purgeA b w
 | [],k,v,h=>by cases h
 | (s,x)::l,k,v,h=>by
  simp only [z6V,ak] at h ⊢
  by_cases e:s=k
  ·subst e
   simp only [Nat.beq_refl,cond_true] at h ⊢
   cases h;exact ⟨x,rfl,rfl⟩
  ·rw [show Nat.beq s k=false by rw [Tr.beq_def];simpa using e] at h ⊢
   exact zcO h
section
variable {E:Env} {S S':St} {Z Z':Nat→Prop} {j j':Nm} {b:Nat}
theorem z2u (hz:ZLe E S Z S' Z') (hj:∀ i b',i≠b→j i=some b'→j' i=some b') {a:AV} {v:Value} (h:VR E S Z j a v):VR E S' Z' j' (z6W b a) v:=by
 unfold z6W
 cases hb:a.only (zno b) with
 | true=>exact h.mono hz (fun i b' hg hi=>hj i b' (fun e=>by subst e;simp [zno] at hg) hi) hb
 | false=>exact .junk v
theorem z5D (hz:ZLe E S Z S' Z') (hj:∀ i b',i≠b→j i=some b'→j' i=some b'):∀ {a:List AV} {v:List Value},VRs E S Z j a v→VRs E S' Z' j' (zbH b a) v
 | _,_,.nil=>.nil
 | _,_,.cons h hl=>.cons (z2u hz hj h) (z5D hz hj hl)
theorem zhK (hz:ZLe E S Z S' Z') (hj:∀ i b',i≠b→j i=some b'→j' i=some b') {a:AV} {v:Value} (h:VR E S Z j a v):VR E S' Z' j' (purgeA b a) v:=by
 unfold purgeA
 split
 ·cases h with | p h=>exact .p (h.mono hz)
 ·cases h with | agg hs h=>exact .agg hs (z5D hz hj h)
 ·cases h with | tup h=>exact .tup (z5D hz hj h)
 ·exact z2u hz hj h
theorem zbr:∀ {l:List AV} {q:List PV} {vs:List Value},unp l=some q→VRs E S Z j l vs→PRs E S Z q vs
 | [],q,vs,h,hv=>by cases h;cases hv;exact .nil
 | a::l,q,vs,h,hv=>by
  cases hv with
  | cons h1 h2 =>
   cases a with
   | p x =>
    simp only [unp] at h
    split at h
    ·rename_i r hr
     cases h
     cases h1 with | p h1=>exact .cons h1 (zbr hr h2)
    ·cases h
   | _=>simp [unp] at h
end
end
noncomputable section
theorem z5h {S:St} {o:Yg} {b:Nat} (hb:b≠S.size):(S.new o).heap.get b=S.heap.get b:=by
 rw [z0j,if_neg hb]
theorem z8P {S:St} {o:Yg} {b d:Nat} (hb:d≠b):(S.put b o).heap.get d=S.heap.get d:=by
 rw [get_put,if_neg hb]
section
variable {S:St} {Z:Nat→Prop} {j:Nm} {E:Env} {tb:Tab} {L:VS} {F:VK} {T:Fr}
def ext (j:Nm) (i b:Nat):Nm:=fun k=>if k=i then some b else j k
theorem z2A {j:Nm} {q s i b:Nat} (h0:j i=none) (h1:ext j q s i=some b):s≤b:=by
 unfold ext at h1
 split at h1
 ·cases h1;exact ym _
 ·rw [h0] at h1;cases h1
theorem z0m (j:Nm) (i b:Nat):ext j i b i=some b:=by simp [ext]
theorem SR.jnx (hS:SR E S Z j L):j (nx L)=none:=hS.dom _ (zpR L)
theorem SR.ext_le (hS:SR E S Z j L) (b:Nat):∀ i b',j i=some b'→ext j (nx L) b i=some b':=fun i b' h=>by
 unfold ext
 by_cases e:i=nx L
 ·subst e;rw [hS.jnx] at h;cases h
 ·rw [if_neg e];exact h
theorem z0d (hS:SR E S Z j L) (o:Yg):ZLe E S Z (S.new o) Z:=fun b hb=>⟨hb,zeE (z7k (by have:=hS.zlt b hb;omega))⟩
theorem SR.new {o:Yg} {vb:VB} (hS:SR E S Z j L) (hb:BR E (S.new o) Z (ext j (nx L) S.size) S.size vb):SR E (S.new o) Z (ext j (nx L) S.size) ((nx L,vb)::L):=by
 refine ⟨fun b hb=>Nat.lt_succ_of_lt (hS.zlt b hb),fun i b hi=>?_,fun i i' b hi hi'=>?_,fun i hi=>?_,fun i vb' hi=>?_,fun b c hb=>⟨Nat.lt_succ_of_lt (hS.rom b c hb).1,fun i hi=>?_⟩⟩
 ·unfold ext at hi
  split at hi
  ·cases hi
   exact ⟨Nat.lt_succ_self _,fun hz=>Nat.lt_irrefl _ (hS.zlt _ hz)⟩
  ·exact ⟨Nat.lt_succ_of_lt (hS.jlt i b hi).1,(hS.jlt i b hi).2⟩
 ·unfold ext at hi hi'
  split at hi
  ·cases hi
   split at hi'
   ·rename_i e1 e2;rw [e1,e2]
   ·have:=(hS.jlt _ _ hi').1;omega
  ·split at hi'
   ·cases hi';have:=(hS.jlt _ _ hi).1;omega
   ·exact hS.inj i i' b hi hi'
 ·rw [zA] at hi
  split at hi
  ·cases hi
  ·rename_i e
   unfold ext;rw [if_neg e];exact hS.dom i hi
 ·rw [zA] at hi
  split at hi
  ·rename_i e
   cases hi;subst e
   exact .inr ⟨S.size,z0m _ _ _,hb⟩
  ·rename_i e
   rcases hS.blk' i vb' hi with hv | ⟨b,h1,h2⟩
   ·exact .inl hv
   refine .inr ⟨b,hS.ext_le _ i b h1,h2.mono (z5h ?_) (z0d hS o) (hS.ext_le _)⟩
   have:=(hS.jlt _ _ h1).1;omega
 ·unfold ext at hi
  split at hi
  ·cases hi;exact Nat.lt_irrefl _ (hS.rom _ c hb).1
  ·exact (hS.rom b c hb).2 i hi
theorem Ex.new (hS:SR E S Z j L) (o:Yg):Ex S Z j (S.new o) Z (ext j (nx L) S.size):=by
 refine ⟨Nat.le_succ _,fun b hb _=>by rw [z0j,if_neg (by omega)],fun b h=>h,fun b h=>.inl h,fun i b hi=>?_,ym _,fun m h _ _=>h⟩
 unfold ext at hi
 split at hi
 ·cases hi;exact .inl (ym _)
 ·exact .inr ⟨i,hi⟩
theorem FRR.new (hF:FRR E S Z j F T) (hS:SR E S Z j L) (o:Yg):FRR E (S.new o) Z (ext j (nx L) S.size) F T:=hF.mono' (z0d hS o) (hS.ext_le _)
abbrev ZN (S:St) (Z:Nat→Prop):Nat→Prop:=fun b=>Z b∨b=S.size
theorem z7y (hS:SR E S Z j L) (o:Yg):ZLe E S Z (S.new o) (ZN S Z):=fun b hb=>⟨.inl hb,zeE (z7k (by have:=hS.zlt b hb;omega))⟩
theorem SR.newZ (hS:SR E S Z j L) (o:Yg):SR E (S.new o) (ZN S Z) j L:=by
 refine ⟨fun b hb=>?_,fun i b hi=>⟨Nat.lt_succ_of_lt (hS.jlt i b hi).1,fun h=>?_⟩,hS.inj,hS.dom,fun i vb hi=>?_,fun b c hb=>⟨Nat.lt_succ_of_lt (hS.rom b c hb).1,(hS.rom b c hb).2⟩⟩
 ·rcases hb with hb | rfl
  ·exact Nat.lt_succ_of_lt (hS.zlt b hb)
  ·exact Nat.lt_succ_self _
 ·rcases h with h | rfl
  ·exact (hS.jlt i b hi).2 h
  ·exact Nat.lt_irrefl _ (hS.jlt i _ hi).1
 ·rcases hS.blk' i vb hi with hv | ⟨b,h1,h2⟩
  ·exact .inl hv
  refine .inr ⟨b,h1,h2.mono (z5h ?_) (z7y hS o) (fun _ _ h=>h)⟩
  have:=(hS.jlt _ _ h1).1;omega
theorem Ex.newZ (o:Yg):Ex S Z j (S.new o) (ZN S Z) j:=by
 refine ⟨Nat.le_succ _,fun b hb _=>by rw [z0j,if_neg (by omega)],fun b h=>.inl h,fun b h=>?_,fun i b hi=>.inr ⟨i,hi⟩,ym _,fun m h _ _=>h⟩
 rcases h with h | rfl
 ·exact .inl h
 ·exact .inr (.inl (ym _))
theorem z07 (hS:SR E S Z j L) {i b:Nat} (hj:j i=some b) (o:Yg):ZLe E S Z (S.put b o) Z:=fun c hc=>⟨hc,zeE (zcE (fun e=>by subst e;exact (hS.jlt i _ hj).2 hc))⟩
theorem SR.put {i b:Nat} {vb w:VB} {o:Yg} (hS:SR E S Z j L) (hi:bk L i=some w) (hj:j i=some b) (hb:BR E (S.put b o) Z j b vb):SR E (S.put b o) Z j (up L i vb):=by
 refine ⟨hS.zlt,hS.jlt,hS.inj,fun k hk=>?_,fun k vb' hk=>?_,hS.rom⟩
 ·rw [z9r hi] at hk
  split at hk
  ·cases hk
  ·exact hS.dom k hk
 ·rw [z9r hi] at hk
  split at hk
  ·rename_i e;cases hk;subst e;exact .inr ⟨b,hj,hb⟩
  ·rename_i e
   rcases hS.blk' k vb' hk with hv | ⟨b',h1,h2⟩
   ·exact .inl hv
   exact .inr ⟨b',h1,h2.mono (z8P (fun h=>by subst h;exact e (hS.inj _ _ _ h1 hj))) (z07 hS hj o) (fun _ _ h=>h)⟩
theorem Ex.put (hS:SR E S Z j L) {i b:Nat} (hj:j i=some b) (o:Yg):Ex S Z j (S.put b o) Z j:=by
 refine ⟨ym _,fun c hc hn=>by rw [get_put,if_neg (fun e=>by subst e;exact hn i hj)],fun b h=>h,fun b h=>.inl h,fun i b hi=>.inr ⟨i,hi⟩,Nat.min_le_right _ _,fun m h1 _ h3=>?_⟩
 show m≤Nat.min b S.low
 exact Nat.le_min.2 ⟨h3 i b hj,h1⟩
def z6P (E:Env) (T:Fr) (S:St) (Z:Nat→Prop) (j:Nm) (o:Op) (out:VOut):Prop:=∃ u S' Z' j',(∀ cF dF,zR E cF dF T S o=some (u,S'))∧SR E S' Z' j' out.L∧FRR E S' Z' j' out.F T∧VR E S' Z' j' out.a u∧Ex S Z j S' Z' j' ∧
 (S.low≤S.size→S'.low≤S'.size)∧(out.kind=0→S'.low=S.low)∧(out.kind=1→∃ b,j out.at_=some b∧storeAt T o=some b∧∃ x,S'=S.put b x)∧(∀ i b,j i=none→j' i=some b→S.size≤b)∧∀ i b,(out.kind=2→i≠out.at_)→j i=some b→j' i=some b
theorem zha {t:Nat} {out:VOut} (hT:zM E tb=true) (h:zem tb F L (nx L) t=some out) (hS:SR E S Z j L) (hF:FRR E S Z j F T):z6P E T S Z j (.alloc t) out:=by
 unfold zem at h
 split at h
 ·rename_i x hi0
  obtain ⟨i,hti⟩:=zN hT hi0
  cases h
  have hz:=z2f (E:=E) (S:=S) (Z:=Z) hti.zero
  refine ⟨ptr S.size 0,S.new (.cells i.zero.cells.toList t),Z,ext j (nx L) S.size,fun cF dF=>?_,hS.new ⟨_,z0c,hz.scalars,(hz.mono (z0d hS _)).toV⟩,hF.new hS _,.ref (z0m _ _ _),Ex.new hS _,fun h=>Nat.le_succ_of_le h,fun _=>rfl,fun h=>(by cases h),fun i b h0 h1=>z2A h0 h1,fun i b _ h=>hS.ext_le _ i b h⟩
  show ob (E.ti.get t) _=_
  rw [hti.get];rfl
 ·cases h
theorem zmC {t:Nat} {x:Operand} {a:AV} {out:VOut} (hx:av F x=some a) (h:zqq F L (nx L) t a=some out) (hS:SR E S Z j L) (hF:FRR E S Z j F T):z6P E T S Z j (.box t x) out:=by
 unfold zqq at h
 split at h
 ·rename_i cs hc
  cases h
  obtain ⟨v,h1,h2⟩:=hF.ev hx
  obtain ⟨h3,h4⟩:=z6a hc h2
  refine ⟨ptr S.size 0,S.new (.cells v.cells.toList t),Z,ext j (nx L) S.size,fun cF dF=>?_,hS.new ⟨_,z0c,h4,h3.mono' (z0d hS _) (hS.ext_le _)⟩,hF.new hS _,.ref (z0m _ _ _),Ex.new hS _,fun h=>Nat.le_succ_of_le h,fun _=>rfl,fun h=>(by cases h),fun i b h0 h1=>z2A h0 h1,fun i b _ h=>hS.ext_le _ i b h⟩
  show ob (T.ev x) _=_
  rw [h1];rfl
 ·cases h
theorem zbm {zp:List PV} {zv:List Value} (h:PRs E S Z zp zv):∀ n,PRs E S Z (zgP zp n) (zeros zv n)
 | 0=>.nil
 | n+1=>h.append (zbm h n)
theorem z1Q (z:List Value):∀ n,(zeros z n).length=n*z.length
 | 0=>by show ([]:List Value).length=_;simp
 | n+1=>by
  show (z++zeros z n).length=_
  rw [List.length_append,z1Q z n,Nat.succ_mul];omega
theorem z5V (z:List Value):∀ (n k:Nat),k<n→cut (zeros z n) (k*z.length) z.length=some z
 | n+1,0,_=>by
  unfold cut
  rw [show Nat.ble (Nat.add (0*z.length) z.length) (zeros z (n+1)).length=true from z3m (by rw [z1Q,Nat.succ_mul];show 0*z.length+z.length≤_;omega)]
  show some (((z++zeros z n).drop (0*z.length)).take z.length)=_
  simp
 | n+1,k+1,h=>by
  have ih:=z5V z n k (by omega)
  unfold cut at ih ⊢
  obtain ⟨h1,h2⟩:=ze ih
  have h3:=zF h1
  rw [z1Q] at h3
  rw [show Nat.ble (Nat.add ((k+1)*z.length) z.length) (zeros z (n+1)).length=true from z3m (by
   rw [z1Q];show (k+1)*z.length+z.length≤_
   have:=Nat.mul_le_mul_right z.length (show k+1+1≤n+1 by omega)
   rw [Nat.succ_mul (k+1)] at this;exact this)]
  show some (((z++zeros z n).drop ((k+1)*z.length)).take z.length)=_
  rw [show (k+1)*z.length=z.length+k*z.length by rw [Nat.succ_mul];omega,←List.drop_drop,List.drop_left]
  exact h2
theorem z3n {x:LTy} {e sz:Nat} (h:Elok E e sz x):x.zero.cells.toList.length=sz:=by
 rw [Array.length_toList,zm h.zero,h.size]
theorem za8 {t:Nat} {x y:Operand} {a b:AV} {out:VOut} (hT:zM E tb=true) (hx:av F x=some a) (hy:av F y=some b) (h:z6k tb F L (nx L) t a b=some out) (ho:∀ P∈out.ob,P) (hS:SR E S Z j L) (hF:FRR E S Z j F T):z6P E T S Z j (.makeSlice t x y) out:=by
 unfold z6k at h
 split at h
 ·rename_i sz ag elem esz zs ik n ik2 c hi0
  obtain ⟨i,hti⟩:=zN hT hi0
  obtain ⟨hgs,e,he⟩:=z0t hti.d
  split at h
  ·rename_i ve hve
   obtain ⟨e',hte⟩:=zN hT hve
   have:e'=e:=by have:=hte.get;rw [he.get] at this;cases this;rfl
   subst this
   cases h
   have h1:=ho (n≤c) (by simp)
   have h2:=ho (c≤1048576) (by simp)
   obtain ⟨v,k1,k2⟩:=hF.ev hx
   obtain ⟨w,k3,k4⟩:=hF.ev hy
   cases k2 with
   | p k2=>cases k2;cases k4 with
    | p k4 =>
     cases k4
     have hz:=z2f (E:=E) (S:=S) (Z:=Z) hte.zero
     refine ⟨.slice (some ⟨S.size,0,none⟩) n c,S.new (.cells (zeros e'.zero.cells.toList c) elem),Z,ext j (nx L) S.size,fun cF dF=>?_,hS.new ⟨_,fun _=>e'.zero.cells.toList,z0c,?_,fun k hk=>?_,fun k hk=>hz.mono (z0d hS _)⟩,hF.new hS _,?_,Ex.new hS _,fun h=>Nat.le_succ_of_le h,fun _=>rfl,fun h=>(by cases h),fun i b h0 h1=>z2A h0 h1,fun i b _ h=>hS.ext_le _ i b h⟩
     ·show ob (T.ev x) (fun a=>ob (T.ev y) fun b=>z2p E t a b S)=_
      rw [k1,k3]
      show ob (E.ti.get t) _=_
      rw [hti.get]
      show ob (z2H i.desc) _=_
      rw [hgs]
      show ob (E.ti.get elem) _=_
      rw [he.get]
      show gd (Nat.ble n c&&(Nat.ble c 1048576&&(Nat.ble e'.bytes 4096&&(Nat.blt 0 e'.size&&Nat.beq e'.zero.cells.size e'.size)))) _=_
      rw [z3m h1,z3m h2,he.bytes,he.zero,show Nat.blt 0 e'.size=true by simpa using he.pos];rfl
     ·rw [z1Q,z3n he]
     ·have:=z5V e'.zero.cells.toList c k hk
      rw [z3n he] at this;exact this
     ·have:=VR.sl (E:=E) (S:=S.new (.cells (zeros e'.zero.cells.toList c) elem)) (Z:=Z) (sz:=esz) (off:=0) (n:=n) (cap:=c) (ex:=1) (z0m j (nx L) S.size)
      rw [Nat.zero_mul] at this
      exact this
  ·cases h
 ·cases h
theorem z0D {cs:List Value} {o n:Nat} (h:o+n≤cs.length):cut cs o n=some ((cs.drop o).take n):=by
 unfold cut
 rw [show Nat.ble (Nat.add o n) cs.length=true from z3m h];rfl
theorem z9i {z:Bool} {t len:Nat} {parts:Array (Nat×Operand)} {out:VOut} (hT:zM E tb=true) (h:z3p tb F L (nx L) z t len parts.toList=some out) (hS:SR E S Z j L) (hF:FRR E S Z j F T):z6P E T S Z j (.buildSlice t len parts) out:=by
 unfold z3p at h
 split at h
 ·rename_i sz ag elem esz zs hi0
  obtain ⟨i,hti⟩:=zN hT hi0
  obtain ⟨hgs,e,he⟩:=z0t hti.d
  split at h
  ·rename_i ve ps hve hps
   obtain ⟨e',hte⟩:=zN hT hve
   have:e'=e:=by have:=hte.get;rw [he.get] at this;cases this;rfl
   subst this
   cases hb:Nat.ble (len*esz) 16777216 with
   | false=>rw [hb] at h;cases h
   | true =>
    rw [hb] at h
    simp only [cond_true] at h
    split at h
    ·rename_i c hc
     split at h
     ·rename_i l hl
      obtain ⟨vs,h1,h2,h3⟩:=z7Z hF hps
      have hz:=zbm (z2f (E:=E) (S:=S) (Z:=Z) hte.zero) len
      obtain ⟨q,h4,h5,h6,h7⟩:=zaa (place':=fun i=>some (i*esz,esz)) (fun i q hq=>hq) hc h2 h3 (hz.toV (j:=j)) hz.scalars
      have hq:=zbr hl h5
      rw [z1Q,z3n he] at h7
      have hev:∀ cF dF,zR E cF dF T S (.buildSlice t len parts)=some (.slice (some ⟨S.size,0,none⟩) len len,S.new (.cells q elem)):=by
       intro cF dF
       show ob (E.ti.get t) _=_
       rw [hti.get]
       show ob (z2H i.desc) _=_
       rw [hgs]
       show ob (z3D T parts.toList) _=_
       rw [h1]
       show ob (E.ti.get elem) _=_
       rw [he.get]
       show gd (Nat.ble (len*e'.size) 16777216&&(Nat.blt 0 e'.size&&Nat.beq e'.zero.cells.size e'.size)) (ob (z9n (fun i=>some (i*e'.size,e'.size)) (zeros e'.zero.cells.toList len) vs) _)=_
       rw [he.size,hb,show Nat.blt 0 esz=true by rw [←he.size];simpa using he.pos,show Nat.beq e'.zero.cells.size esz=true by rw [←he.size];exact he.zero,h4];rfl
      split at h
      ·cases h
       refine ⟨_,_,Z,ext j (nx L) S.size,hev,hS.new ⟨q,fun _=>[],z0c,by rw [h7],fun k hk=>by omega,fun k hk=>by omega⟩,hF.new hS _,?_,Ex.new hS _,fun h=>Nat.le_succ_of_le h,fun _=>rfl,fun h=>(by cases h),fun i b h0 h1=>z2A h0 h1,fun i b _ h=>hS.ext_le _ i b h⟩
       have:=VR.sl (E:=E) (S:=S.new (.cells q elem)) (Z:=Z) (sz:=esz) (off:=0) (n:=0) (cap:=0) (ex:=2) (z0m j (nx L) S.size)
       rw [Nat.zero_mul] at this
       exact this
      ·rename_i n
       have hcut:∀ k,k<n+1→cut q (k*esz) esz=some ((q.drop (k*esz)).take esz):=fun k hk=>by
        refine z0D ?_
        rw [h7]
        have:=Nat.mul_le_mul_right esz (show k+1≤n+1 by omega)
        rw [Nat.succ_mul] at this;exact this
       cases z with
       | true =>
        cases h
        have hlq:=hq.mono (z0d hS (.cells q elem))
        refine ⟨_,_,Z,ext j (nx L) S.size,hev,hS.new ⟨q,fun k=>(q.drop (k*esz)).take esz,z0c,by rw [h7],hcut,fun k hk=>(hlq.drop _).take _⟩,hF.new hS _,?_,Ex.new hS _,fun h=>Nat.le_succ_of_le h,fun _=>rfl,fun h=>(by cases h),fun i b h0 h1=>z2A h0 h1,fun i b _ h=>hS.ext_le _ i b h⟩
        have:=VR.sl (E:=E) (S:=S.new (.cells q elem)) (Z:=Z) (sz:=esz) (off:=0) (n:=n+1) (cap:=n+1) (ex:=2) (z0m j (nx L) S.size)
        rw [Nat.zero_mul] at this
        exact this
       | false =>
       cases h
       refine ⟨_,_,ZN S Z,j,hev,hS.newZ _,hF.mono' (z7y hS _) (fun _ _ h=>h),?_,Ex.newZ _,fun h=>Nat.le_succ_of_le h,fun _=>rfl,fun h=>(by cases h),fun i b h0 h1=>(by rw [h0] at h1;cases h1),fun i b _ h=>h⟩
       have hlq:=hq.mono (z7y hS (.cells q elem))
       refine .p (.lst (sz:=esz) (fun k=>(q.drop (k*esz)).take esz) (.inr rfl) ((z2I hS.rom_new).trans z0c) (ym _) (yu _) (.inl rfl) (fun k hk=>?_) (fun k hk=>(hlq.drop _).take _))
       rw [Nat.zero_add]
       refine z0D ?_
       rw [h7]
       have:=Nat.mul_le_mul_right esz (show k+1≤n+1 by omega)
       rw [Nat.succ_mul] at this;exact this
     ·cases h
    ·cases h
  ·cases h
 ·cases h
end
end
noncomputable section
section
variable {S:St} {Z:Nat→Prop} {j:Nm} {E:Env} {tb:Tab} {L:VS} {F:VK} {T:Fr}
theorem z4q {cs vs:List Value} {o:Nat} (h:o+vs.length≤cs.length):paste cs o vs=some (cs.take o++vs++cs.drop (o+vs.length)):=by
 unfold paste
 rw [show Nat.ble (Nat.add o vs.length) cs.length=true from z3m h];rfl
theorem z2N {cs vs:List Value} {o a n:Nat} (h:o+vs.length≤cs.length) (hd:a+n≤o∨o+vs.length≤a):cut (cs.take o++vs++cs.drop (o+vs.length)) a n=cut cs a n:=by
 have hlen:(cs.take o++vs++cs.drop (o+vs.length)).length=cs.length:=by simp;omega
 unfold cut
 rw [hlen]
 by_cases hle:a+n≤cs.length
 ·rw [show Nat.ble (Nat.add a n) cs.length=true from z3m hle]
  show some _=some _
  congr 1
  apply List.ext_getElem?
  intro i
  rw [List.getElem?_take,List.getElem?_take]
  split
  ·rename_i hi
   rw [List.getElem?_drop,List.getElem?_drop]
   rcases hd with hd | hd
   ·rw [List.append_assoc,List.getElem?_append_left (by simp;omega),List.getElem?_take,if_pos (by omega)]
   ·rw [List.getElem?_append_right (by simp;omega),List.getElem?_drop]
    congr 1
    simp;omega
  ·rfl
 ·rw [show Nat.ble (Nat.add a n) cs.length=false by
   cases hb:Nat.ble (Nat.add a n) cs.length with
   | false=>rfl
   | true=>exact absurd (zF hb) hle]
  rfl
theorem z7h {cs vs:List Value} {o a n:Nat} (h:o+vs.length≤cs.length) (ha:o≤a) (hn:a+n≤o+vs.length):cut (cs.take o++vs++cs.drop (o+vs.length)) a n=some ((vs.drop (a - o)).take n):=by
 have hlen:(cs.take o++vs++cs.drop (o+vs.length)).length=cs.length:=by simp;omega
 rw [z0D (by rw [hlen];omega)]
 congr 1
 apply List.ext_getElem?
 intro i
 rw [List.getElem?_take,List.getElem?_take]
 split
 ·rename_i hi
  rw [List.getElem?_drop,List.getElem?_drop,List.append_assoc,List.getElem?_append_right (by simp;omega),List.getElem?_append_left (by simp;omega)]
  congr 1
  simp;omega
 ·rfl
theorem z7g {cs vs g:List Value} {k sz off:Nat} (hg:cut cs (k*sz) sz=some g) (ho:off+vs.length≤sz):cut (cs.take (k*sz+off)++vs++cs.drop (k*sz+off+vs.length)) (k*sz) sz=some (g.take off++vs++g.drop (off+vs.length)):=by
 have h1:=z3F hg
 have hgl:=z1Z hg
 have hlen:(cs.take (k*sz+off)++vs++cs.drop (k*sz+off+vs.length)).length=cs.length:=by simp;omega
 rw [z0D (by rw [hlen];omega)]
 congr 1
 apply List.ext_getElem?
 intro i
 rw [List.getElem?_take]
 split
 ·rename_i hi
  rw [List.getElem?_drop,List.append_assoc,List.append_assoc]
  by_cases h2:i<off
  ·have l1:(cs.take (k*sz+off)++(vs++cs.drop (k*sz+off+vs.length)))[k*sz+i]? = cs[k*sz+i]? :=by
    rw [List.getElem?_append_left (by simp;omega),List.getElem?_take,if_pos (by omega)]
   have l2:(g.take off++(vs++g.drop (off+vs.length)))[i]? = g[i]? :=by
    rw [List.getElem?_append_left (by simp;omega),List.getElem?_take,if_pos h2]
   rw [l1,l2,zaY hg hi]
  ·have l1:(cs.take (k*sz+off)++(vs++cs.drop (k*sz+off+vs.length)))[k*sz+i]? = (vs++cs.drop (k*sz+off+vs.length))[i - off]? :=by
    rw [List.getElem?_append_right (by simp;omega)]
    congr 1;simp;omega
   have l2:(g.take off++(vs++g.drop (off+vs.length)))[i]? = (vs++g.drop (off+vs.length))[i - off]? :=by
    rw [List.getElem?_append_right (by simp;omega)]
    congr 1;simp;omega
   rw [l1,l2]
   by_cases h3:i - off<vs.length
   ·rw [List.getElem?_append_left h3,List.getElem?_append_left h3]
   ·have l3:(vs++cs.drop (k*sz+off+vs.length))[i - off]? = cs[k*sz+i]? :=by
     rw [List.getElem?_append_right (by omega),List.getElem?_drop]
     congr 1;omega
    have l4:(vs++g.drop (off+vs.length))[i - off]? = g[i]? :=by
     rw [List.getElem?_append_right (by omega),List.getElem?_drop]
     congr 1;omega
    rw [l3,l4,zaY hg hi]
 ·rename_i hi
  rw [List.getElem?_eq_none]
  simp;omega
theorem zgQ {t:Nat} {x y:Operand} {a b:AV} {out:VOut} (hT:zM E tb=true) (hx:av F x=some a) (hy:av F y=some b) (h:zgR tb F L t a b=some out) (ho:∀ P∈out.ob,P) (hS:SR E S Z j L) (hF:FRR E S Z j F T):z6P E T S Z j (.store t x y) out:=by
 unfold zgR at h
 split at h
 ·rename_i vt l hi0 hl
  obtain ⟨i,hti⟩:=zN hT hi0
  obtain ⟨p,k1,k2⟩:=hF.ev hx
  obtain ⟨w,k3,k4⟩:=hF.ev hy
  obtain ⟨h1,h2⟩:=z6a hl k4
  cases hb:Nat.beq l.length vt.size with
  | false=>rw [hb] at h;cases h
  | true =>
   rw [hb] at h
   simp only [cond_true] at h
   have hw:Nat.beq w.cells.size i.size=true:=by rw [hti.size,←Array.length_toList,←h1.length];exact hb
   have ev:∀ (b' o:Nat) (cs r:List Value) (ty:TypeId),p = .pointer (some ⟨b',o,none⟩)→S.cells b'=some (cs,ty)→paste cs o w.cells.toList=some r→∀ cF dF,zR E cF dF T S (.store t x y)=some (undef,S.put b' (.cells r ty)):=by
    intro b' o cs r ty hp hc hpa cF dF
    show ob (ob (T.ev x) addrOf) _=_
    rw [k1,hp]
    show ob (T.ev y) _=_
    rw [k3]
    show ob (z0Y E t ⟨b',o,none⟩ w S) _=_
    unfold z0Y
    rw [hti.get]
    show ob (gd (Nat.beq w.cells.size i.size) (S.store ⟨b',o,none⟩ w.cells.toList)) _=_
    rw [hw]
    show ob (ob (S.cells b') _) _=_
    rw [hc]
    show ob (gd (w.cells.toList.all scalar) (ob (paste cs o w.cells.toList) _)) _=_
    rw [h2,hpa];rfl
   have st:∀ (b' o:Nat),p = .pointer (some ⟨b',o,none⟩)→storeAt T (.store t x y)=some b':=by
    intro b' o hp
    show ob (ob (T.ev x) addrOf) _=_
    rw [k1,hp];rfl
   split at h
   ·rename_i bi off
    split at h
    ·rename_i cs ty hbk
     split at h
     ·rename_i c hc
      cases h
      cases k2 with
      | ref hj =>
       obtain ⟨b',e1,vs,h3,h4,h5⟩:=hS.blk _ _ hbk id
       rw [hj] at e1;cases e1
       obtain ⟨q,h6,h7,h8,_⟩:=zbn hc h5 h1 h4 h2
       refine ⟨undef,_,Z,j,ev _ _ _ _ _ rfl h3 h6,hS.put hbk hj ⟨q,z3k,h8,h7.mono' (z07 hS hj _) (fun _ _ h=>h)⟩,hF.mono' (z07 hS hj _) (fun _ _ h=>h),.junk _,Ex.put hS hj _,fun h=>yn (Nat.min_le_right _ _) h,fun h=>(by cases h),fun _=>⟨_,hj,st _ _ rfl,_,rfl⟩,fun i b h0 h1=>(by rw [h0] at h1;cases h1),fun i b _ h=>h⟩
     ·cases h
    ·cases h
   ·rename_i bi sz k off
    split at h
    ·rename_i n pp xs ty hbk
     have key:∀ (obs:List Prop) (p2:Nat→PV) (xs2:List (Nat×AV)),k<n→sz=1→off=0→b.flat=true→z5L p2 xs2 k=b→(∀ i,i≠k→z5L p2 xs2 i=z5L pp xs i)→z6P E T S Z j (.store t x y) ⟨obs,F,.junk,up L bi (.hdr n p2 xs2 ty),1,bi⟩:=by
      intro obs p2 xs2 hk hsz hof hfl he hn
      subst hsz hof
      have hws:=k4.scalar hfl
      have hwc:w.cells.toList=[w]:=by cases w <;> first | rfl | cases hws
      cases k2 with
      | el hj =>
       obtain ⟨b',e1,vs,h3,h4,h5,h6⟩:=hS.blk _ _ hbk id
       rw [hj] at e1;cases e1
       have hin:k*1+0+w.cells.toList.length≤vs.length:=by rw [h4,hwc];simp;omega
       have hlen:(vs.take (k*1+0)++w.cells.toList++vs.drop (k*1+0+w.cells.toList.length)).length=n:=by rw [←h4];simp;simp at hin;omega
       have hget:∀ i,(vs.take (k*1+0)++w.cells.toList++vs.drop (k*1+0+w.cells.toList.length))[i]? = if i=k then some w else vs[i]? :=by
        intro i
        rw [hwc,Nat.mul_one,Nat.add_zero,List.append_assoc]
        have hkl:(vs.take k).length=k:=by rw [List.length_take];omega
        by_cases e:i=k
        ·subst e
         rw [if_pos rfl,List.getElem?_append_right (by omega),hkl,Nat.sub_self];rfl
        ·rw [if_neg e]
         by_cases h7:i<k
         ·rw [List.getElem?_append_left (by omega),List.getElem?_take,if_pos h7]
         ·rw [List.getElem?_append_right (by omega),hkl,List.getElem?_append_right (by simp;omega),List.getElem?_drop]
          congr 1;simp;omega
       refine ⟨undef,_,Z,j,ev _ _ _ _ _ rfl h3 (z4q hin),hS.put hbk hj ⟨_,z3k,hlen,?_,fun i hi=>?_⟩,hF.mono' (z07 hS hj _) (fun _ _ h=>h),.junk _,Ex.put hS hj _,fun h=>yn (Nat.min_le_right _ _) h,fun h=>(by cases h),fun _=>⟨_,hj,st _ _ rfl,_,rfl⟩,fun i b h0 h1=>(by rw [h0] at h1;cases h1),fun i b _ h=>h⟩
       ·rw [List.all_append,List.all_append,z7T h5,h2,z7U h5];rfl
       ·rw [hget]
        by_cases e:i=k
        ·subst e
         rw [if_pos rfl,he]
         exact ⟨w,rfl,k4.mono' (z07 hS hj _) (fun _ _ h=>h)⟩
        ·rw [if_neg e,hn i e]
         obtain ⟨v,h8,h9⟩:=h6 i hi
         exact ⟨v,h8,h9.mono' (z07 hS hj _) (fun _ _ h=>h)⟩
     cases hg:vt.agg with
     | true=>rw [hg] at h;cases h
     | false =>
      rw [hg] at h
      simp only [cond_false] at h
      split at h
      ·rename_i q
       cases h
       have o1:=ho (k<n) (by simp)
       have o2:=ho (sz=1) (by simp)
       have o3:=ho (off=0) (by simp)
       refine key _ _ _ o1 o2 o3 rfl ?_ fun i hi=>?_
       ·show AV.p (bif Nat.beq k k then q else pp k)=_
        rw [Nat.beq_refl];rfl
       ·show AV.p (bif Nat.beq i k then q else pp i)=AV.p (pp i)
        rw [z0B hi];rfl
      ·cases h
       have o1:=ho (k<n) (by simp)
       have o2:=ho (sz=1) (by simp)
       have o3:=ho (off=0) (by simp)
       have o4:=ho (b.flat=true) (by simp)
       refine key _ _ _ o1 o2 o3 o4 ?_ fun i hi=>?_
       ·show (bif Nat.beq k k then b else z5L pp xs k)=b
        rw [Nat.beq_refl];rfl
       ·show (bif Nat.beq k i then b else z5L pp xs i)=z5L pp xs i
        rw [z0B (fun e=>hi e.symm)];rfl
    split at h
    ·rename_i n sz' f ty q hbk hq
     cases h
     have o1:=ho (k<n) (by simp)
     have o2:=ho (sz=sz') (by simp)
     have o3:=ho (off+q.length≤sz) (by simp)
     subst o2
     cases k2 with
     | el hj =>
      obtain ⟨b',e1,vs,g,h3,h4,h5,h6⟩:=hS.blk _ _ hbk id
      rw [hj] at e1;cases e1
      have hql:=zbr hq h1
      have hwl:w.cells.toList.length=q.length:=hql.length.symm
      have hin:k*sz+off+w.cells.toList.length≤vs.length:=by
       rw [h4,hwl]
       have:=Nat.mul_le_mul_right sz (show k+1≤n by omega)
       rw [Nat.succ_mul] at this;omega
      refine ⟨undef,_,Z,j,ev _ _ _ _ _ rfl h3 (z4q hin),hS.put hbk hj ⟨_,fun i=>if i=k then (g k).take off++w.cells.toList++(g k).drop (off+w.cells.toList.length) else g i,z3k,?_,fun i hi=>?_,fun i hi=>?_⟩,hF.mono' (z07 hS hj _) (fun _ _ h=>h),.junk _,Ex.put hS hj _,fun h=>yn (Nat.min_le_right _ _) h,fun h=>(by cases h),fun _=>⟨_,hj,st _ _ rfl,_,rfl⟩,fun i b h0 h1=>(by rw [h0] at h1;cases h1),fun i b _ h=>h⟩
      ·rw [←h4];simp;simp at hin;omega
      ·show cut _ _ _=some (if i=k then _ else _)
       by_cases e:i=k
       ·subst e
        rw [if_pos rfl]
        exact z7g (h5 i hi) (by omega)
       ·rw [if_neg e,z2N hin ?_]
        ·exact h5 i hi
        ·rcases Nat.lt_or_gt_of_ne e with h | h
         ·left
          have:=Nat.mul_le_mul_right sz (show i+1≤k by omega)
          rw [Nat.succ_mul] at this;omega
         ·right
          have:=Nat.mul_le_mul_right sz (show k+1≤i by omega)
          rw [Nat.succ_mul] at this;omega
      ·show PRs E _ _ (bif Nat.beq i k then _ else _) (if i=k then _ else _)
       by_cases e:i=k
       ·subst e
        rw [if_pos rfl,Nat.beq_refl]
        simp only [cond_true]
        have hg:=(h6 i hi).mono (z07 hS hj (.cells (vs.take (i*sz+off)++w.cells.toList++vs.drop (i*sz+off+w.cells.toList.length)) ty))
        have hq':=hql.mono (z07 hS hj (.cells (vs.take (i*sz+off)++w.cells.toList++vs.drop (i*sz+off+w.cells.toList.length)) ty))
        unfold zbJ
        rw [←hwl]
        exact ((hg.take off).append hq').append (hg.drop _)
       ·rw [z0B e,if_neg e]
        exact (h6 i hi).mono (z07 hS hj _)
    ·rename_i n sz' f ty q hbk hq
     cases h
     have o1:=ho (k<n) (by simp)
     have o2:=ho (sz=sz') (by simp)
     have o3:=ho (off+q.length≤sz) (by simp)
     subst o2
     cases k2 with
     | el hj =>
      obtain ⟨b',e1,vs,g,h3,h4,h5,h6⟩:=hS.blk _ _ hbk (fun h0=>by have h0:n=0:=h0;omega)
      rw [hj] at e1;cases e1
      have hql:=zbr hq h1
      have hwl:w.cells.toList.length=q.length:=hql.length.symm
      have hin:k*sz+off+w.cells.toList.length≤vs.length:=by
       rw [h4,hwl]
       have:=Nat.mul_le_mul_right sz (show k+1≤n by omega)
       rw [Nat.succ_mul] at this;omega
      refine ⟨undef,_,Z,j,ev _ _ _ _ _ rfl h3 (z4q hin),hS.put hbk hj ⟨_,fun i=>if i=k then (g k).take off++w.cells.toList++(g k).drop (off+w.cells.toList.length) else g i,z3k,?_,fun i hi=>?_,fun i hi=>?_⟩,hF.mono' (z07 hS hj _) (fun _ _ h=>h),.junk _,Ex.put hS hj _,fun h=>yn (Nat.min_le_right _ _) h,fun h=>(by cases h),fun _=>⟨_,hj,st _ _ rfl,_,rfl⟩,fun i b h0 h1=>(by rw [h0] at h1;cases h1),fun i b _ h=>h⟩
      ·rw [←h4];simp;simp at hin;omega
      ·show cut _ _ _=some (if i=k then _ else _)
       by_cases e:i=k
       ·subst e
        rw [if_pos rfl]
        exact z7g (h5 i hi) (by omega)
       ·rw [if_neg e,z2N hin ?_]
        ·exact h5 i hi
        ·rcases Nat.lt_or_gt_of_ne e with h | h
         ·left
          have:=Nat.mul_le_mul_right sz (show i+1≤k by omega)
          rw [Nat.succ_mul] at this;omega
         ·right
          have:=Nat.mul_le_mul_right sz (show k+1≤i by omega)
          rw [Nat.succ_mul] at this;omega
      ·show PRs E _ _ (bif Nat.beq i k then _ else _) (if i=k then _ else _)
       by_cases e:i=k
       ·subst e
        rw [if_pos rfl,Nat.beq_refl]
        simp only [cond_true]
        have hg:=(h6 i hi).mono (z07 hS hj (.cells (vs.take (i*sz+off)++w.cells.toList++vs.drop (i*sz+off+w.cells.toList.length)) ty))
        have hq':=hql.mono (z07 hS hj (.cells (vs.take (i*sz+off)++w.cells.toList++vs.drop (i*sz+off+w.cells.toList.length)) ty))
        unfold zbJ
        rw [←hwl]
        exact ((hg.take off).append hq').append (hg.drop _)
       ·rw [z0B e,if_neg e]
        exact (h6 i hi).mono (z07 hS hj _)
    ·cases h
   ·cases h
 ·cases h
end
end
end
end Go.Proofs.YtdpipdniklognaaGreat
