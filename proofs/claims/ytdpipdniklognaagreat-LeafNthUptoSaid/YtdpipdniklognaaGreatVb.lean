/- The program's LeafNth returns true for all numbers that describe a book and all lists of Ids, without an exception and without changing its arguments: a part of the proof. -/
import Derived.Test.YtdpipdniklognaaGreatVa
import Derived.LoopNIn
set_option linter.all false
/- The evaluator's operations are the machine's, calls and rounds among them. -/
set_option maxRecDepth 100000
namespace Go.Proofs.YtdpipdniklognaaGreat
section
def z0b:Option Nat→Fence
 | none=>Fence.wide
 | some l=>Fence.wide.inRound l
theorem z1o (r:Option Nat) (f:FuncId):(z0b r).fn f:=by cases r <;> trivial
theorem z0Q (r:Option Nat):(z0b r).depth=none:=by cases r <;> rfl
theorem z3C (r:Option Nat):(z0b r).round=r:=by cases r <;> rfl
theorem zgj (r:Option Nat) (l:Nat):(z0b r).inRound l=z0b (some l):=by cases r <;> rfl
theorem z5Q (r:Option Nat) {n:Nat} {P:Program} {f:FuncId} {args:Array Value} {w:World} {K:Ending→World→Prop} (h:Calls P f args w K):CallsIn (z0b r) n P f args w K:=by
 cases r with
 | none=>exact callsIn_wide.2 h
 | some l=>exact (callsIn_wide.2 h:CallsIn Fence.wide n P f args w K)
def RdRel (j:Inj):Option Nat→Option Nat→Prop
 | none,none=>True
 | some b,some l=>∃ x,j b=some x∧x.blk=l
 | _,_=>False
theorem RdRel.mono {j j':Inj} (hj:Le j j') {r r':Option Nat} (h:RdRel j r r'):RdRel j' r r':=by
 cases r <;> cases r' <;> first | exact h | (obtain ⟨x,h1,h2⟩:=h;exact ⟨x,hj _ _ h1,h2⟩)
def zqf:LExit→Exit
 | .normal=>.normal
 | .exit id=>.exit id
 | .ret=>.ret
def Defs (base:Nat) (j:Inj) (w:World):List Deferred→Prop
 | []=>True
 | d::ds=>(∃ r,d={ target:=.collected r,args:=#[] }∧base≤r∧w.heap[r]? = some (.deferred (some []))∧(∀ b x,j b=some x→x.blk≠r)∧∀ d'∈ds,d'≠d)∧Defs base j w ds
theorem Defs.ext {base lo:Nat} {j j':Inj} {S S':St} {w w':World} (h:Ext lo j S w j' S' w'):∀ {ds:List Deferred},Defs base j w ds→Defs base j' w' ds
 | [],_=>trivial
 | d::ds,⟨⟨r,h1,h2,h3,h4,h5⟩,hd⟩=>by
  have hlt:r<w.heap.size:=(Array.getElem?_eq_some_iff.1 h3).1
  refine ⟨⟨r,h1,h2,?_,?_,h5⟩,Defs.ext h hd⟩
  ·rw [h.fr r hlt fun b x hb _ _=>h4 b x hb];exact h3
  ·intro b x hb
   cases hj:j b with
   | some y =>
    have:=h.sub b y hj
    rw [hb] at this;cases this
    exact h4 b x hj
   | none =>
    obtain ⟨_,h6⟩:=h.new b x hb hj
    rcases h6 with h6 | ⟨c,y,h7,_,_,h8⟩
    ·omega
    ·rw [←h8];exact h4 c y h7
def CPost (G:Good) (base:Nat) (j:Inj) (S:St) (w:World) (r:Res):Exit→Act→World→Prop:=fun e a' w' =>
 e=zqf r.ex∧∃ j',Sim G j' r.S w'∧Ext r.S.low j S w j' r.S w'∧TRel j' r.T a'.tmps∧Defs base j' w' a'.defers
def zgC (G:Good) (j:Inj) (S:St) (w:World) (v:Value) (S':St):Ending→World→Prop:=fun e w' =>
 ∃ v' j',e = .returned v'∧Yf j' v v'∧Sim G j' S' w'∧Ext S'.low j S w j' S' w'
def z0h (G:Good) (callF:z1f):Prop:=∀ f args S v S',callF f args S=some (v,S') →
 (∃ fn, G.P.funcs[f]? = some fn ∧ (fn.name == "runtime.NumGoroutine") = false ∧ fn.body.isSome = true) ∧
 ∀ j (args':Array Value) w,Sim G j S w→Yh j args args'.toList→S'.low≤S.low∧Calls G.P f args' w (zgC G j S w v S')
def z0u (G:Good) (codeF:z15):Prop:=∀ c rd T S r,codeF c rd T S=some r→z7P c=true →
 ∀ n base j a w rd',RdRel j rd rd'→Sim G j S w→TRel j T a.tmps→base≤w.heap.size→Defs base j w a.defers→r.S.low≤S.low∧c.wpIn (z0b rd') n G.P (CPost G base j S w r) a w
section
variable {G:Good} {j:Inj} {S S':St} {w:World} {v:Value} {T:Fr} {callF:z1f} {codeF:z15}
theorem z4o {T T':Fr} {d:Option Tmp} {v:Value} (h:T.put d v=some T'):(d=none∧T'=T)∨∃ t,d=some t∧t<T.n∧T'=⟨T.n,T.t.set t v⟩:=by
 cases d with
 | none=>cases h;exact .inl ⟨rfl,rfl⟩
 | some t =>
  obtain ⟨h1,h2⟩:=ze h
  cases h2
  exact .inr ⟨t,rfl,z0w h1,rfl⟩
theorem TRel.set {tmps:Array Value} (h:TRel j T tmps) {t:Tmp} {v':Value} (ht:t<T.n) (hv:Yf j v v'):TRel j ⟨T.n,T.t.set t v⟩ (tmps.setIfInBounds t v'):=by
 refine ⟨by simpa using h.1,fun i u hu=>?_⟩
 rw [Tr.get_set] at hu
 have hlt:t<tmps.size:=yo ht h.1
 by_cases e:i=t
 ·rw [if_pos e] at hu;cases hu
  subst e
  exact ⟨v',by simp [hlt],hv⟩
 ·rw [if_neg e] at hu
  obtain ⟨u',h1,h2⟩:=h.2 i u hu
  exact ⟨u',by rw [Array.getElem?_setIfInBounds_ne (Ne.symm e)];exact h1,h2⟩
theorem TRel.put {T':Fr} {a:Act} (h:TRel j T a.tmps) {d:Option Tmp} {v':Value} (hp:T.put d v=some T') (hv:Yf j v v'):TRel j T' (a.put d v').tmps:=by
 rcases z4o hp with ⟨rfl,rfl⟩ | ⟨t,rfl,ht,rfl⟩
 ·exact h
 ·exact h.set ht hv
theorem TRel.ev {a:Act} (h:TRel j T a.tmps) {x:Operand} (hc:z0V x=true) (hv:T.ev x=some v):Yf j v (a.eval x):=by
 cases x with
 | tmp t =>
  obtain ⟨v',h1,h2⟩:=h.2 t v hv
  simp only [Act.eval,Array.getD_eq_getD_getElem?,h1]
  exact h2
 | const c=>cases hv;exact z1x j hc
 | global g=>cases hv
 | func f=>cases hv;exact .func (.func f) .nil .nil
theorem TRel.ops {a:Act} (h:TRel j T a.tmps) {l:List Operand} (hc:l.all z0V=true):RelOps j T a.eval l :=
 fun x hx _ hv=>h.ev (List.all_eq_true.1 hc x hx) hv
theorem zfu {tmps:Array Value}:∀ {ps:List Tmp} {vs vs':List Value} {T T0:Fr},z4K ps vs T=some T0→Yh j vs vs'→TRel j T tmps →
  ps.length=vs'.length∧TRel j T0 ((ps.zip vs').foldl (fun (tmps:Array Value) (p:Tmp×Value)=>tmps.setIfInBounds p.1 p.2) tmps)
 | [],[],vs',T,T0,h,hv,ht=>by cases h;cases hv;exact ⟨rfl,ht⟩
 | [],_::_,_,_,_,h,_,_=>by cases h
 | _::_,[],_,_,_,h,_,_=>by cases h
 | t::ps,v::vs,vs',T,T0,h,hv,ht=>by
  obtain ⟨T1,h1,h2⟩:=z8 h
  cases hv with
  | cons hv hvs =>
   rcases z4o h1 with ⟨h3,_⟩ | ⟨t',h3,h4,rfl⟩
   ·cases h3
   ·cases h3
    obtain ⟨h5,h6⟩:=zfu h2 hvs (ht.set h4 hv)
    exact ⟨by simp [h5],h6⟩
theorem z4x (hs:Sim G j S w) {l:Nat} {x:JB} {q:LoopState×Option Code×Fr×List Tmp×Code×Code} (hx:j l=some x) (h:ob (S.heap.get l) z3e=some q) :
  ∃ L,w.heap[x.blk]? = some (.loop L)∧L.state=q.1∧L.pending=q.2.1∧L.params.toList=q.2.2.2.1∧L.assign=q.2.2.2.2.1∧L.body=q.2.2.2.2.2∧TRel j q.2.2.1 L.tmps∧z7P q.2.2.2.2.1=true∧z7P q.2.2.2.2.2=true ∧
   S.heap.get l=some (.loop q.1 q.2.1 q.2.2.1 q.2.2.2.1 q.2.2.2.2.1 q.2.2.2.2.2):=by
 obtain ⟨o,ho,h1⟩:=z8 h
 have:=zg9 h1;subst this
 obtain ⟨o',h2,L,h3,h4,h5,h6,h7,h8,h9,h10⟩:=hs.objs _ _ _ hx ho
 exact ⟨L,by rw [h2,h3],h4,h5,h6,h7,h8,h9,h10.1,h10.2,ho⟩
theorem run_getLoop {P:Program} {l:Nat} {L:Loop} (h:w.heap[l]? = some (.loop L)):(Instr.getLoop l).run P w = .ok L w:=by
 simp [Instr.getLoop,getObj,Sem.run,h]
theorem z5a {P:Program} {l:Nat} {L:Loop} (o:Obj) (h:w.heap[l]? = some (.loop L)):(setObj l o).run P w = .ok () (w.putObj l o):=by
 simp [setObj,Sem.run,h,World.putObj]
theorem zar (hs:Sim G j S w) {l:Nat} {x:JB} {q:LoopState×Option Code×Fr×List Tmp×Code×Code} (hx:j l=some x) (h:ob (S.heap.get l) z3e=some q) {L:Loop} (hL:w.heap[x.blk]? = some (.loop L)) (st:LoopState) (pd:Option Code) :
  Sim G j (S.put l (.loop st pd q.2.2.1 q.2.2.2.1 q.2.2.2.2.1 q.2.2.2.2.2)) (w.putObj x.blk (.loop { L with state:=st,pending:=pd })) ∧
   ∀ lo,lo≤l→Ext lo j S w j (S.put l (.loop st pd q.2.2.1 q.2.2.2.1 q.2.2.2.2.1 q.2.2.2.2.2)) (w.putObj x.blk (.loop { L with state:=st,pending:=pd })):=by
 obtain ⟨L',h1,h2,h3,h4,h5,h6,h7,h8,h9,h10⟩:=z4x hs hx h
 rw [hL] at h1;cases h1
 have hlt:=(hs.dom _ _ hx).2
 exact hs.put hx ⟨_,h10,by simp⟩ World.putObj_size (World.putObj_heap_same hlt) (fun c hc=>World.putObj_heap_other hc) ⟨_,rfl,rfl,rfl,h4,h5,h6,h7,h8,h9⟩
theorem zn3 (r:Option Nat) (n:Nat):(z0b r).room n:=fun d hd=>by rw [z0Q] at hd;cases hd
theorem z7V {P:Program} {c:Code} {r:Option Nat} {n:Nat} {Q:Exit→Act→World→Prop} {a:Act} (h:c.wpIn (z0b r) n P Q a w):∃ e a' w',Q e a' w':=by
 obtain ⟨e,a',w',hq,_⟩:=h { (default:Frame) with roundOf:=r } [] [] (z3C r).symm (z1o r _) (zn3 r _)
 exact ⟨e,a',w',hq⟩
theorem zdS {P:Program} {l:Nat} {R:Ending→World→Prop} {ex:LExit} {a:Act} {w w':World} {v:Value} (h:(Instr.endRound l (codeOf ex)).run P w = .ok v w') (hR:R (.returned v) w'):roundPost P l R (zqf ex) a w:=by
 cases ex <;> exact ⟨v,w',h,hR⟩
theorem zdd (hs:Sim G j S w) (hC:z0u G codeF) {l:Nat} {x:JB} {args:List Value} {args':Array Value} {r:Value×St} (hx:j l=some x) (ha:Yh j args args'.toList) (h0:z6U codeF l args S=some r) (rd':Option Nat) (n:Nat) :
  r.2.low≤S.low∧∃ f tmps asg body,(Instr.yield x.blk args').run G.P w = .ok (.round x.blk f tmps asg body) w∧RoundIn (z0b rd') n G.P x.blk f tmps asg body w (zgC G j S w r.1 r.2):=by
 obtain ⟨q,hq,h1⟩:=z8 h0
 obtain ⟨T0,hT0,h2⟩:=z8 h1
 obtain ⟨r1,hr1,h3⟩:=z8 h2
 obtain ⟨hnorm,h4⟩:=ze h3
 obtain ⟨q1,hq1,h5⟩:=z8 h4
 obtain ⟨hready,h6⟩:=ze h5
 obtain ⟨r2,hr2,h7⟩:=z8 h6
 obtain ⟨q2,hq2,h8⟩:=z8 h7
 clear h0 h1 h2 h3 h4 h5 h6 h7
 cases h8
 obtain ⟨L,hL,hst,hpd,hps,hasg,hbody,hT,hc1,hc2,hget⟩:=z4x hs hx hq
 obtain ⟨hlen,hT0r⟩:=zfu hT0 ha hT
 have hsz:args'.size=L.params.size:=by
  have:q.2.2.2.1.length=args'.toList.length:=hlen
  rw [←hps] at this
  simpa using this.symm
 have htm:(L.params.zip args').foldl (fun tmps (t,a)=>tmps.setIfInBounds t a) L.tmps=(q.2.2.2.1.zip args'.toList).foldl (fun (tmps:Array Value) (p:Tmp×Value)=>tmps.setIfInBounds p.1 p.2) L.tmps:=by
  rw [←hps,←Array.foldl_toList,Array.toList_zip]
 obtain ⟨hlow1,hw1⟩:=hC _ _ _ _ _ hr1 hc1 n 0 j { tmps:=(q.2.2.2.1.zip args'.toList).foldl (fun (tmps:Array Value) (p:Tmp×Value)=>tmps.setIfInBounds p.1 p.2) L.tmps,defers:=[] } w (some x.blk) ⟨x,hx,rfl⟩ hs hT0r (yu _) trivial
 have hnorm':r1.ex = .normal:=by
  cases he:r1.ex <;> rw [he] at hnorm <;> first | rfl | cases hnorm
 -- what holds wherever the assignments have ended
 have key:∀ a1 w1 j1,Sim G j1 r1.S w1→Ext r1.S.low j S w j1 r1.S w1→TRel j1 r1.T a1.tmps→Defs 0 j1 w1 a1.defers →
   (r2.S.put l (.loop (bf (zk r2.ex) .ready .done) (codeOf r2.ex) q2.2.2.1 q2.2.2.2.1 q2.2.2.2.2.1 q2.2.2.2.2.2)).low≤r1.S.low ∧
   ∃ w2,(Instr.beginRound x.blk).run G.P w1 = .ok () w2∧q.2.2.2.2.2.wpIn (z0b (some x.blk)) n G.P (roundPost G.P x.blk (zgC G j S w (.bool (zk r2.ex)) (r2.S.put l (.loop (bf (zk r2.ex) .ready .done) (codeOf r2.ex) q2.2.2.1 q2.2.2.2.1 q2.2.2.2.2.1 q2.2.2.2.2.2)))) a1 w2:=by
  intro a1 w1 j1 hs1 he1 ht1 hd1
  have hx1:=he1.sub _ _ hx
  obtain ⟨L1,hL1,hst1,hpd1,hps1,hasg1,hbody1,hT1,hc11,hc12,hget1⟩:=z4x hs1 hx1 hq1
  have hrd:L1.state = .ready:=by
   rw [hst1]
   cases he:q1.1 <;> rw [he] at hready <;> first | rfl | cases hready
  obtain ⟨hs2,he2⟩:=zar hs1 hx1 hq1 hL1 .busy q1.2.1
  have he2':=he2 _ (Nat.min_le_left l r1.S.low)
  have hpdL:({ L1 with state:=.busy,pending:=q1.2.1 }:Loop)={ L1 with state:=.busy }:=by rw [←hpd1]
  rw [hpdL] at hs2 he2'
  have hbr:(Instr.beginRound x.blk).run G.P w1 = .ok () (w1.putObj x.blk (.loop { L1 with state:=.busy })):=by
   simp only [Instr.beginRound,Sem.run_bind,run_getLoop hL1,Result.andThen_ok,z5a _ hL1,hrd,Sem.run_pure]
  obtain ⟨hlow2,hw2⟩:=hC _ _ _ _ _ hr2 hc2 n 0 j1 a1 (w1.putObj x.blk (.loop { L1 with state:=.busy })) (some x.blk) ⟨x,hx1,rfl⟩ hs2 ht1 (yu _) (hd1.ext he2')
  have hlow3:(r2.S.put l (.loop (bf (zk r2.ex) .ready .done) (codeOf r2.ex) q2.2.2.1 q2.2.2.2.1 q2.2.2.2.2.1 q2.2.2.2.2.2)).low≤r2.S.low:=Nat.min_le_right _ _
  refine ⟨yn hlow3 (yn hlow2 (Nat.min_le_right _ _)),_,hbr,wpIn_mono hw2 ?_⟩
  rintro e a3 w3 ⟨rfl,j3,hs3,he3,ht3,_⟩
  have hx3:=he3.sub _ _ hx1
  obtain ⟨L3,hL3,hst3,hpd3,hps3,hasg3,hbody3,hT3,hc31,hc32,hget3⟩:=z4x hs3 hx3 hq2
  obtain ⟨hs4,he4⟩:=zar hs3 hx3 hq2 hL3 (bf (zk r2.ex) .ready .done) (codeOf r2.ex)
  have he4':=he4 _ (Nat.min_le_left l r2.S.low)
  have hnone:(codeOf r2.ex).isNone=zk r2.ex:=by cases r2.ex <;> rfl
  refine zdS (v:=.bool (zk r2.ex)) (w':=w3.putObj x.blk (.loop { L3 with state:=bf (zk r2.ex) .ready .done,pending:=codeOf r2.ex })) ?_ ⟨_,j3,rfl,.bool _,hs4,?_⟩
  ·simp only [Instr.endRound,Sem.run_bind,run_getLoop hL3,Result.andThen_ok,z5a _ hL3,Sem.run_pure,hnone]
   cases zk r2.ex <;> rfl
  ·refine he1.trans (fun b y hb=>(hs.dom b y hb).1) ?_ (yn hlow3 (yn hlow2 (Nat.min_le_right _ _)))
   refine (he2'.low (lo':=r2.S.low) (by exact hlow2)).trans (fun b y hb=>(hs1.dom b y hb).1) ?_ hlow3
   exact he3.trans (fun b y hb=>(hs2.dom b y hb).1) he4' hlow3
 have hlow:(r2.S.put l (.loop (bf (zk r2.ex) .ready .done) (codeOf r2.ex) q2.2.2.1 q2.2.2.2.1 q2.2.2.2.2.1 q2.2.2.2.2.2)).low≤S.low:=by
  obtain ⟨e,a1,w1,_,j1,hs1,he1,ht1,hd1⟩:=z7V hw1
  exact yn (key a1 w1 j1 hs1 he1 ht1 hd1).1 hlow1
 refine ⟨hlow,L.fn,(q.2.2.2.1.zip args'.toList).foldl (fun (tmps:Array Value) (p:Tmp×Value)=>tmps.setIfInBounds p.1 p.2) L.tmps,L.assign,L.body,?_,roundIn_of_wpIn (z1o _ _) ?_⟩
 ·simp only [Instr.yield,Sem.run_bind,run_getLoop hL,Result.andThen_ok,hsz,ne_eq,not_true_eq_false,if_false,Sem.run_pure,htm]
 ·rw [zgj,hasg,hbody]
  refine wpIn_mono hw1 ?_
  rintro e a1 w1 ⟨rfl,j1,hs1,he1,ht1,hd1⟩
  rw [hnorm']
  exact (key a1 w1 j1 hs1 he1 ht1 hd1).2
def OpW (G:Good) (rd':Option Nat) (n:Nat) (o:Oper) (a:Act) (w:World) (j:Inj) (S:St) (v:Value) (S':St):Prop :=
 ∀ (K:Act→World→Prop) (Q:Exit→Act→World→Prop),(∀ v' w' j',Yf j' v v'→Sim G j' S' w'→Ext S'.low j S w j' S' w'→K (a.put o.dst v') w')→o.wpIn (z0b rd') n G.P a w K Q
theorem zpe (rd':Option Nat) (n:Nat) {o:Oper} {a:Act} (hd:∀ c,o.op≠.defer c) (h:zO G ((execOp a.eval o).run G.P w) v j S w S'):OpW G rd' n o a w j S v S':=by
 intro K Q hK
 obtain ⟨v',w',j',hr,hv,hs',he,_⟩:=h
 refine ⟨fun f _=>z1o _ f,?_⟩
 rw [Oper.semAt_eq _ _ _ hd]
 rcases hr with hr | ⟨hr,rfl⟩
 ·rw [hr];exact hK v' w' j' hv hs' he
 ·rw [hr];exact hK undef w' j' hv hs' he
theorem z6T {P : Program} {f : FuncId} {fn : Func} (h1 : P.funcs[f]? = some fn) (h2 : (fn.name == "runtime.NumGoroutine") = false) (h3 : fn.body.isSome = true) (args : Array Value) (w : World) : (callFunc f args).run P w = .ok (.enter f args) w := by
 have h4:fn.body.isNone=false:=by cases hb:fn.body <;> rw [hb] at h3 <;> first | rfl | cases h3
 simp only [callFunc,Sem.run_bind,run_program,Result.andThen_ok,h1,h2,h4,Bool.false_eq_true,if_false,Sem.run_pure]
theorem zgp (hs:Sim G j S w) (hA:z0h G callF) (hC:z0u G codeF) {c:Call} {f:Operand} {a:Act} {o:Oper} (ho:o.op = .call c) (hf:c.callee = .value f) {fv:Value} {args:List Value} {r:Value×St} (hfv:Yf j fv (a.eval f))
  (ha:Yh j args (c.args.map a.eval).toList) (h0:z4J callF codeF fv args S=some r) (rd':Option Nat) (n:Nat):r.2.low≤S.low∧OpW G rd' n o a w j S r.1 r.2:=by
 have hd:∀ c,o.op≠.defer c:=fun c'=>by rw [ho];exact fun h=>by cases h
 unfold z4J at h0
 split at h0
 ·rename_i fn first cap
  generalize hy:a.eval f=y at hfv
  cases hfv with
  | func hfn h1 h2 =>
   rename_i fn' first' cap'
   have hres:(execOp a.eval o)=(do invoke (.fn fn' cap') (first'++c.args.map a.eval):Sem Next):=by
    simp only [execOp,ho,resolve,hf,hy,Deferred.ofValue]
    rfl
   unfold zji at h0
   split at h0
   ·rename_i g
    cases hfn
    obtain ⟨⟨fnr,h3,h4,h5⟩,h6⟩:=hA _ _ _ _ _ h0
    obtain ⟨h7,h8⟩:=h6 j ((first'++c.args.map a.eval)++cap') w hs (by
     simp only [Array.toList_append,List.append_assoc]
     exact h1.append (ha.append h2))
    refine ⟨h7,fun K Q hK=>⟨fun f _=>z1o _ f,?_⟩⟩
    rw [Oper.semAt_eq _ _ _ hd,hres]
    have:(invoke (.fn (.func g) cap') (first'++c.args.map a.eval)).run G.P w = .ok (.enter g ((first'++c.args.map a.eval)++cap')) w:=z6T h3 h4 h5 _ _
    rw [this]
    refine ⟨(fun h=>by rw [z0Q] at h;cases h),z5Q rd' (Calls.mono h8 ?_)⟩
    rintro e w' ⟨v',j',rfl,hv,hs',he⟩
    exact hK v' w' j' hv hs' he
   ·rename_i l
    obtain ⟨hemp,h3⟩:=ze h0
    simp only [yw,List.isEmpty_iff] at hemp
    cases hfn with
    | @yield _ x hx =>
     rw [hemp.1] at h1
     have hf':first' = #[]:=by
      have:=h1.length
      simpa using this.symm
     subst hf'
     obtain ⟨h4,f0,tmps,asg,body,h5,h6⟩:=zdd hs hC hx ha h3 rd' (n - 1)
     refine ⟨h4,fun K Q hK=>⟨fun f _=>z1o _ f,?_⟩⟩
     rw [Oper.semAt_eq _ _ _ hd,hres]
     have:(invoke (.fn (.yield x.blk) cap') (#[]++c.args.map a.eval)).run G.P w = .ok (.round x.blk f0 tmps asg body) w:=by
      rw [Array.empty_append];exact h5
     rw [this]
     refine ⟨(fun h=>by rw [z0Q] at h;cases h),h6.mono ?_⟩
     rintro e w' ⟨v',j',rfl,hv,hs',he⟩
     exact hK v' w' j' hv hs' he
   ·cases h0
 ·cases h0
theorem zlo (hG:Yj G) (hs:Sim G j S w) {b:Builtin} {ts:Array TypeId} {ty:TypeId} {consts:Array Bool} {args:List Value} {args':Array Value} {r:Value×St} (ha:Yh j args args'.toList) (h0:z2O G.E b ts.toList args S=some r) :
  zO G ((builtin b ts ty consts args').run G.P w) r.1 j S w r.2:=by
 unfold z2O at h0
 split at h0
 ·exact zpW hG hs ha h0
 ·exact zpX hG hs ha h0
 ·exact zjo hG hs ha h0
 ·exact zo9 hG hs ha h0
 ·exact zlp hG hs ha h0
 ·exact zpV hs ha h0
 ·exact zpU hs ha h0
 ·cases h0
theorem z0p {x:Option Value} {r:Value×St} (h:zG S x=some r):x=some r.1∧r.2=S:=z1T h
theorem zkv (hG:Yj G) (hs:Sim G j S w) (hA:z0h G callF) (hC:z0u G codeF) {a:Act} {o:Oper} {r:Value×St} (hr:RelOps j T a.eval o.op.operands.toList) (h0:zR G.E callF codeF T S o.op=some r) (rd':Option Nat) (n:Nat) :
  r.2.low≤S.low∧OpW G rd' n o a w j S r.1 r.2:=by
 have one:(∀ c,o.op≠.defer c)→zO G ((execOp a.eval o).run G.P w) r.1 j S w r.2→r.2.low≤S.low∧OpW G rd' n o a w j S r.1 r.2 :=
  fun hd h=>⟨by obtain ⟨_,_,_,_,_,_,_,h⟩:=h;exact h,zpe rd' n hd h⟩
 cases ho:o.op <;> rw [ho] at h0 hr <;> simp only [Op.operands] at hr <;> simp only [zR] at h0 <;> first | (cases h0;done) | skip
 case call c =>
  obtain ⟨args,hargs,h1⟩:=z8 h0
  have hra:RelOps j T a.eval c.args.toList:=fun x hx=>hr x (by simp only [Call.operands,Array.toList_append];exact List.mem_append_right _ hx)
  have hv:=RelOps.evs hra hargs
  have hv':Yh j args (c.args.map a.eval).toList:=by simpa using hv
  cases hcal:c.callee with
  | builtin b =>
   rw [hcal] at h1
   refine one (fun _=>by rw [ho];simp) ?_
   have e:∃ consts,execOp a.eval o=builtin b c.argTypes o.type consts (c.args.map a.eval):=⟨_,by simp only [execOp,ho,resolve,hcal];rfl⟩
   obtain ⟨consts,e⟩:=e
   rw [e]
   exact zlo hG hs hv' h1
  | invoke r m=>rw [hcal] at h1;cases h1
  | value f =>
   rw [hcal] at h1
   obtain ⟨fv,hfv,h2⟩:=z8 h1
   refine zgp hs hA hC ho hcal (hr f ?_ fv hfv) hv' h2 rd' n
   simp [Call.operands,hcal]
 all_goals refine one (fun _=>by rw [ho];simp) ?_
 case move x =>
  obtain ⟨h1,h2⟩:=z0p h0;rw [h2]
  exact z1W hs (hr x (by simp) _ h1) (by simp [execOp,ho])
 case assign x =>
  obtain ⟨h1,h2⟩:=z0p h0;rw [h2]
  exact z1W hs (hr x (by simp) _ h1) (by simp [execOp,ho])
 case pick c x y =>
  obtain ⟨h1,h2⟩:=z0p h0;rw [h2]
  have:=znf hs (by simpa using hr) h1
  simpa only [execOp,ho] using this
 case alloc t=>simpa only [execOp,ho] using zkF hG hs h0
 case box t x=>simpa only [execOp,ho] using zpc hs (by simpa using hr) h0
 case build t parts =>
  obtain ⟨h1,h2⟩:=z0p h0;rw [h2]
  have:=zkD (ρ :=a.eval) hG hs (fun p hp v hv=>hr p.2 (by simp;exact ⟨p.1,by simpa using hp⟩) v hv) h1
  simpa only [execOp,ho] using this
 case buildSlice t len parts =>
  have:=zay (ρ :=a.eval) hG hs (fun p hp v hv=>hr p.2 (by simp;exact ⟨p.1,by simpa using hp⟩) v hv) h0
  simpa only [execOp,ho] using this
 case load t x =>
  obtain ⟨h1,h2⟩:=z0p h0;rw [h2]
  simpa only [execOp,ho] using zni hG hs (by simpa using hr) h1
 case store t x y=>simpa only [execOp,ho] using zku hG hs (by simpa using hr) h0
 case nilCheck x =>
  obtain ⟨h1,h2⟩:=z0p h0;rw [h2]
  exact zkC hs (by simpa using hr) h1 ho
 case binOp op t x y yt =>
  obtain ⟨h1,h2⟩:=z0p h0;rw [h2]
  obtain ⟨u,hu,h3⟩:=z8 h1
  obtain ⟨u2,hu2,h4⟩:=z8 h3
  simpa only [execOp,ho] using zpd hG hs (hr x (by simp) _ hu) (hr y (by simp) _ hu2) h4
 case unOp op t x =>
  obtain ⟨h1,h2⟩:=z0p h0;rw [h2]
  obtain ⟨u,hu,h3⟩:=z8 h1
  simpa only [execOp,ho] using zqC hs (hr x (by simp) _ hu) h3
 case convert src dst x =>
  obtain ⟨h1,h2⟩:=z0p h0;rw [h2]
  obtain ⟨si,hsi,h3⟩:=z8 h1
  obtain ⟨u,hu,h4⟩:=z8 h3
  obtain ⟨di,hdi,h5⟩:=z8 h4
  simpa only [execOp,ho] using znk hG hs hsi hdi (hr x (by simp) _ hu) h5
 case makeFunc fn first cap =>
  obtain ⟨h1,h2⟩:=z0p h0;rw [h2]
  simpa only [execOp,ho] using zdj hs (by simpa using hr) h1
 case makeMap t rs=>simpa only [execOp,ho] using zg2 (ρ :=a.eval) hs h0
 case makeSlice t x y =>
  obtain ⟨u,hu,h3⟩:=z8 h0
  obtain ⟨u2,hu2,h4⟩:=z8 h3
  simpa only [execOp,ho] using zbS hG hs (hr x (by simp) _ hu) (hr y (by simp) _ hu2) h4
 case slice t x lo hi mx =>
  obtain ⟨h1,h2⟩:=z0p h0;rw [h2]
  obtain ⟨u,hu,h3⟩:=z8 h1
  have hr':RelOps j T a.eval (lo.toList++hi.toList++mx.toList):=fun y hy=>hr y (by simp at hy ⊢;right;simpa [or_assoc] using hy)
  simpa only [execOp,ho] using zkw hG hs hr' (hr x (by simp) _ hu) h3
 case fieldAddr t x f =>
  obtain ⟨h1,h2⟩:=z0p h0;rw [h2]
  obtain ⟨u,hu,h3⟩:=z8 h1
  simpa only [execOp,ho] using zbU hG hs (hr x (by simp) _ hu) h3
 case field t x f =>
  obtain ⟨h1,h2⟩:=z0p h0;rw [h2]
  obtain ⟨u,hu,h3⟩:=z8 h1
  simpa only [execOp,ho] using zkA hG hs (hr x (by simp) _ hu) h3
 case indexAddr t x y =>
  obtain ⟨h1,h2⟩:=z0p h0;rw [h2]
  obtain ⟨u,hu,h3⟩:=z8 h1
  obtain ⟨u2,hu2,h4⟩:=z8 h3
  simpa only [execOp,ho] using zbT hG hs (hr x (by simp) _ hu) (hr y (by simp) _ hu2) h4
 case index t x y =>
  obtain ⟨h1,h2⟩:=z0p h0;rw [h2]
  obtain ⟨u,hu,h3⟩:=z8 h1
  obtain ⟨u2,hu2,h4⟩:=z8 h3
  simpa only [execOp,ho] using zkz hG hs (hr x (by simp) _ hu) (hr y (by simp) _ hu2) h4
 case lookup t x y ok =>
  obtain ⟨h1,h2⟩:=z0p h0;rw [h2]
  obtain ⟨u,hu,h3⟩:=z8 h1
  obtain ⟨u2,hu2,h4⟩:=z8 h3
  simpa only [execOp,ho] using zhZ hG hs (hr x (by simp) _ hu) (hr y (by simp) _ hu2) h4
 case mapUpdate t m k x =>
  obtain ⟨u,hu,h3⟩:=z8 h0
  obtain ⟨u2,hu2,h4⟩:=z8 h3
  obtain ⟨u3,hu3,h5⟩:=z8 h4
  obtain ⟨S1,hS1,h6⟩:=z8 h5
  cases h6
  simpa only [execOp,ho] using zhY hG hs (hr m (by simp) _ hu) (hr k (by simp) _ hu2) (hr x (by simp) _ hu3) hS1
 case mapEntry t m k =>
  obtain ⟨u,hu,h3⟩:=z8 h0
  obtain ⟨u2,hu2,h4⟩:=z8 h3
  simpa only [execOp,ho] using zkB hG hs (hr m (by simp) _ hu) (hr k (by simp) _ hu2) h4
 case entryStore t m k x =>
  obtain ⟨u,hu,h3⟩:=z8 h0
  obtain ⟨u2,hu2,h4⟩:=z8 h3
  obtain ⟨u3,hu3,h5⟩:=z8 h4
  obtain ⟨S1,hS1,h6⟩:=z8 h5
  cases h6
  simpa only [execOp,ho] using zdk hs (hr m (by simp) _ hu) (hr k (by simp) _ hu2) (hr x (by simp) _ hu3) hS1
 case extract x i =>
  obtain ⟨h1,h2⟩:=z0p h0;rw [h2]
  simpa only [execOp,ho] using zg3 hs (by simpa using hr) h1
 case range t x =>
  obtain ⟨u,hu,h3⟩:=z8 h0
  simpa only [execOp,ho] using zkx hG hs (hr x (by simp) _ hu) h3
 case next x str =>
  obtain ⟨u,hu,h3⟩:=z8 h0
  simpa only [execOp,ho] using zng hs (hr x (by simp) _ hu) h3
end
section
variable {G:Good} {j:Inj} {S S':St} {w:World} {v:Value} {T:Fr} {callF:z1f} {codeF:z15}
theorem zbj {F:Fence} {n:Nat} {P:Program} {o:Oper} {a:Act} {K:Act→World→Prop} (hd:F.depth=none) (h:o.wpIn F n P a w K (fun _ _ _=>False)):∃ a' w',K a' w':=by
 have hroom:∀ n,F.room n:=fun n d hd'=>by rw [hd] at hd';cases hd'
 obtain ⟨_,h⟩:=h
 generalize (o.semAt F.round a.eval).run P w=r at h
 cases r with
 | halt x w' =>
  cases x <;> simp only [Oper.uponIn] at h
 | ok x w' =>
  cases x <;> simp only [Oper.uponIn] at h
  case value=>exact ⟨_,_,h⟩
  case skip=>exact ⟨_,_,h⟩
  case defer=>exact ⟨_,_,h⟩
  case enter f args =>
   obtain ⟨e,w'',fr,hR,_⟩:=h.2.2 [] (hroom _)
   cases e with
   | returned v=>exact ⟨_,_,hR⟩
   | panicked c=>exact hR.elim
   | outgrown=>obtain ⟨_,_,h⟩:=hR;exact h.elim
  case row rw args =>
   obtain ⟨v,w'',hR,_⟩:=h.2 default [] (hroom _)
   exact ⟨_,_,hR⟩
  case round l f tmps asg body =>
   obtain ⟨e,w'',hR,_⟩:=h.2.2 default [] (hroom _)
   cases e with
   | returned v=>exact ⟨_,_,hR⟩
   | panicked c=>exact hR.elim
   | outgrown=>obtain ⟨_,_,h⟩:=hR;exact h.elim
theorem OpW.some {rd':Option Nat} {n:Nat} {o:Oper} {a:Act} (h:OpW G rd' n o a w j S v S'):∃ v' w' j',Yf j' v v'∧Sim G j' S' w'∧Ext S'.low j S w j' S' w':=by
 obtain ⟨_,w',v',j',h1,h2,h3⟩:=zbj (z0Q rd') (h (fun _ w'=>∃ v' j',Yf j' v v'∧Sim G j' S' w'∧Ext S'.low j S w j' S' w') _ fun v' w' j' h1 h2 h3=>⟨v',j',h1,h2,h3⟩)
 exact ⟨v',w',j',h1,h2,h3⟩
def RelTmps (j:Inj) (T:Fr) (tmps:Array Value) (l:List Tmp):Prop:=∀ t∈l,∀ v,T.t.get t=some v→∃ v',tmps[t]? = some v'∧Yf j v v'
theorem TRel.tmps {tmps:Array Value} (h:TRel j T tmps) (l:List Tmp):RelTmps j T tmps l:=fun t _ v hv=>h.2 t v hv
theorem zg7 {l:List Operand} {t:Tmp} (h:Operand.tmp t∈l):t∈tmpsOf l:=List.mem_filterMap.2 ⟨.tmp t,h,rfl⟩
theorem RelTmps.ops {a:Act} {ops:Array Oper} {o:Oper} (h:RelTmps j T a.tmps (readsOf ops o)) (hc:o.op.operands.toList.all z0V=true):RelOps j T a.eval o.op.operands.toList:=by
 intro x hx v hv
 cases x with
 | tmp t =>
  obtain ⟨v',h1,h2⟩:=h t (List.mem_append_left _ (zg7 hx)) v hv
  simp only [Act.eval,Array.getD_eq_getD_getElem?,h1]
  exact h2
 | const c=>cases hv;exact z1x j (List.all_eq_true.1 hc _ hx)
 | global g=>cases hv
 | func f=>cases hv;exact .func (.func f) .nil .nil
theorem zfF {a:Act} {ops:Array Oper} {o:Oper} {b:Bool} (h:RelTmps j T a.tmps (readsOf ops o)) (hw:z7W ops T o.guard=some b):Region.wanted o (yielded ops a.tmps)=b:=by
 unfold Region.wanted
 cases hg:o.guard with
 | none=>rw [hg] at hw;cases hw;rfl
 | some g =>
  rw [hg] at hw
  obtain ⟨k,want⟩:=g
  change (Option.rec (some false) (fun d=>ob (T.t.get d) fun v=>some (Option.rec false (fun b=>b==want) (z3l v))) (ob ops.toList[k]? (·.dst)):Option Bool)=some b at hw
  have hdst:(ops[k]?).bind (·.dst)=ob ops.toList[k]? (·.dst):=by
   rw [←Array.getElem?_toList]
   cases ops.toList[k]? <;> rfl
  show (yielded ops a.tmps k==some want)=b
  unfold yielded
  rw [hdst]
  cases hd:ob ops.toList[k]? (·.dst) with
  | none=>rw [hd] at hw;cases hw;rfl
  | some d =>
   rw [hd] at hw
   obtain ⟨v,hv,hw⟩:=z8 hw
   obtain ⟨v',h1,h2⟩:=h d (by
    refine List.mem_append_right _ ?_
    rw [hg]
    show d∈(ob ops.toList[k]? (·.dst)).toList
    rw [hd];simp) v hv
   simp only [Option.bind_some,h1]
   cases h2 <;> cases hw <;> rfl
theorem z3S (hG:Yj G) (hs:Sim G j S w) (hA:z0h G callF) (hC:z0u G codeF) {a:Act} {ops:Array Oper} {o:Oper} {i:Nat} {r:Fr×St} (hT:RelTmps j T a.tmps (readsOf ops o)) (hc:o.op.operands.toList.all z0V=true)
  (ho:ops[i]? = some o) (h0:zq G.E callF codeF ops o T S=some r) (rd':Option Nat) (n:Nat) :
  r.2.low≤S.low∧∃ v,T.put o.dst v=some r.1∧(∃ v' w' j',Yf j' v v'∧Sim G j' r.2 w'∧Ext r.2.low j S w j' r.2 w') ∧
   ∀ (K:Act→World→Prop) (Q:Exit→Act→World→Prop),(∀ v' w' j',Yf j' v v'→Sim G j' r.2 w'→Ext r.2.low j S w j' r.2 w'→K (a.put o.dst v') w')→wpOpIn (z0b rd') n G.P ops Q i K a w:=by
 obtain ⟨b,hb,h1⟩:=z8 h0
 have hw:=zfF hT hb
 cases b with
 | false =>
  obtain ⟨T',hT',h2⟩:=z8 h1
  cases h2
  refine ⟨ym _,undef,hT',⟨undef,w,j,.tuple .nil,hs,Ext.refl _ _ _ _⟩,fun K Q hK=>?_⟩
  simp only [wpOpIn,ho,hw,Bool.false_eq_true,if_false]
  exact ⟨fun f _=>z1o _ f,hK undef w j (.tuple .nil) hs (Ext.refl _ _ _ _)⟩
 | true =>
  obtain ⟨q,hq,h2⟩:=z8 h1
  obtain ⟨T',hT',h3⟩:=z8 h2
  cases h3
  obtain ⟨h4,h5⟩:=zkv hG hs hA hC (hT.ops hc) hq rd' n
  refine ⟨h4,q.1,hT',h5.some,fun K Q hK=>?_⟩
  simp only [wpOpIn,ho,hw,if_true]
  exact h5 K Q hK
theorem put_defers (a:Act) (d:Option Tmp) (v:Value):(a.put d v).defers=a.defers:=by cases d <;> rfl
theorem z8b (hG:Yj G) (hA:z0h G callF) (hC:z0u G codeF) {ops:Array Oper} (rd':Option Nat) (n:Nat):∀ (l:List Oper) (i:Nat) (T:Fr) (S:St) (r:Fr×St),
  z4P G.E callF codeF ops l T S=some r→(∀ k,l[k]? = ops[i+k]?)→(l.all fun o=>o.op.operands.toList.all z0V)=true →
  ∀ j (a:Act) w,Sim G j S w→TRel j T a.tmps→r.2.low≤S.low∧∀ Q:Exit→Act→World→Prop,
   (∀ a' w' j',a'.defers=a.defers→TRel j' r.1 a'.tmps→Sim G j' r.2 w'→Ext r.2.low j S w j' r.2 w'→Q .normal a' w')→wpOpsIn (z0b rd') n G.P ops Q (List.range' i l.length) a w
 | [],i,T,S,r,h0,_,_,j,a,w,hs,hT=>by
  cases h0
  exact ⟨ym _,fun Q hQ=>hQ a w j rfl hT hs (Ext.refl _ _ _ _)⟩
 | o::l,i,T,S,r,h0,hl,hc,j,a,w,hs,hT=>by
  change (ob (zq G.E callF codeF ops o T S) fun r=>z4P G.E callF codeF ops l r.1 r.2)=some r at h0
  obtain ⟨q,hq,h1⟩:=z8 h0
  simp only [List.all_cons,yw] at hc
  have ho:ops[i]? = some o:=by have:=hl 0;simpa using this.symm
  have hl':∀ k,l[k]? = ops[i+1+k]? :=fun k=>by have:=hl (k+1);simpa [Nat.add_assoc,Nat.add_comm 1 k] using this
  obtain ⟨h2,v,hv,⟨v0,w0,j0,h3,h4,h5⟩,h6⟩:=z3S hG hs hA hC (hT.tmps _) hc.1 ho hq rd' n
  have hdom:=fun b x (hb:j b=some x)=>(hs.dom b x hb).1
  obtain ⟨h7,_⟩:=z8b hG hA hC rd' n l (i+1) q.1 q.2 r h1 hl' hc.2 j0 (a.put o.dst v0) w0 h4 ((hT.mono h5.sub).put hv h3)
  refine ⟨yn h7 h2,fun Q hQ=>?_⟩
  rw [List.length_cons,List.range'_succ,wpOpsIn_cons]
  refine h6 _ _ fun v' w' j' h8 h9 h10=>?_
  obtain ⟨h11,h12⟩:=z8b hG hA hC rd' n l (i+1) q.1 q.2 r h1 hl' hc.2 j' (a.put o.dst v') w' h9 ((hT.mono h10.sub).put hv h8)
  exact h12 Q fun a' w2 j2 h13 h14 h15 h16=>hQ a' w2 j2 (by rw [h13,put_defers]) h14 h15 (h10.trans hdom h16 h11)
theorem zfW (hG:Yj G) (hA:z0h G callF) (hC:z0u G codeF) {id:Nat} {ops:Array Oper} {T:Fr} {r:Fr×St} (h0:z4P G.E callF codeF ops ops.toList T S=some r) (hc:(ops.toList.all fun o=>o.op.operands.toList.all z0V)=true)
  (rd':Option Nat) (n:Nat) {a:Act} (hs:Sim G j S w) (hT:TRel j T a.tmps):r.2.low≤S.low∧∀ Q:Exit→Act→World→Prop,
   (∀ a' w' j',a'.defers=a.defers→TRel j' r.1 a'.tmps→Sim G j' r.2 w'→Ext r.2.low j S w j' r.2 w'→Q .normal a' w')→(Code.region id ops false).wpIn (z0b rd') n G.P Q a w:=by
 obtain ⟨h1,h2⟩:=z8b hG hA hC rd' n ops.toList 0 T S r h0 (fun k=>by simp) hc j a w hs hT
 refine ⟨h1,fun Q hQ=>wpIn_region ?_⟩
 have:=h2 Q hQ
 rwa [Array.length_toList,←List.range_eq_range'] at this
end
theorem z2G (acc:List Nat):∀ (l:List Edge) (m:Nat),(z1w acc l).testBit m=true→∃ e∈l,Region.binds .any e=true∧(m=e.on∨((acc[e.on]?).getD 0).testBit m=true)
 | [],m,h=>by simp [z1w] at h
 | e::l,m,h=>by
  unfold z1w at h
  cases hb:Region.binds .any e with
  | false =>
   rw [hb] at h
   obtain ⟨e',h1,h2⟩:=z2G acc l m h
   exact ⟨e',by simp [h1],h2⟩
  | true =>
   rw [hb] at h
   change ((2 ^ e.on ||| (acc[e.on]?).getD 0) ||| z1w acc l).testBit m=true at h
   simp only [Nat.testBit_or,Nat.testBit_two_pow,Bool.or_eq_true,decide_eq_true_eq] at h
   rcases h with (h | h) | h
   ·exact ⟨e,by simp,hb,.inl h.symm⟩
   ·exact ⟨e,by simp,hb,.inr h⟩
   ·obtain ⟨e',h1,h2⟩:=z2G acc l m h
    exact ⟨e',by simp [h1],h2⟩
theorem z9c:∀ (l:List Oper) (acc:List Nat),(z4M l acc).length=acc.length+l.length
 | [],acc=>by simp [z4M]
 | o::l,acc=>by rw [z4M,z9c l];simp;omega
theorem zcI {ops:List Oper} {R:Nat→Nat→Prop} (hR:∀ i o e m,ops[i]? = some o→e∈o.after.toList→Region.binds .any e=true→(m=e.on∨R e.on m)→R i m) :
  ∀ (l:List Oper) (acc:List Nat),(∀ k,l[k]? = ops[acc.length+k]?)→(∀ i m,((acc[i]?).getD 0).testBit m=true→R i m)→∀ i m,(((z4M l acc)[i]?).getD 0).testBit m=true→R i m
 | [],acc,_,h,i,m,hb=>h i m hb
 | o::l,acc,hl,h,i,m,hb=>by
  refine zcI hR l (acc++[z1w acc o.after.toList]) (fun k=>?_) ?_ i m hb
  ·have:=hl (k+1)
   simpa [Nat.add_assoc,Nat.add_comm 1 k] using this
  ·intro i m hb
   by_cases hi:i<acc.length
   ·rw [List.getElem?_append_left hi] at hb;exact h i m hb
   ·rw [List.getElem?_append_right (by omega)] at hb
    by_cases h0:i - acc.length=0
    ·rw [h0] at hb
     have hi2:i=acc.length:=by omega
     obtain ⟨e,h1,h2,h3⟩:=z2G acc o.after.toList m (by simpa using hb)
     have ho:ops[i]? = some o:=by have:=hl 0;rw [hi2];simpa using this.symm
     exact hR i o e m ho h1 h2 (h3.imp id (h _ _))
    ·rw [List.getElem?_eq_none (by simp;omega)] at hb
     simp at hb
def Bef (ops:Array Oper) (m i:Nat):Prop:=(((z4M ops.toList [])[i]?).getD 0).testBit m=true
def Cl (ops:Array Oper) (p:Nat→Prop):Prop:=∀ i o,ops[i]? = some o→p i→∀ e∈o.after.toList,Region.binds .any e=true→p e.on
theorem zfv {ops:Array Oper} {R:Nat→Nat→Prop} (hR:∀ i o e m,ops[i]? = some o→e∈o.after.toList→Region.binds .any e=true→(m=e.on∨R e.on m)→R i m) {m i:Nat} (h:Bef ops m i):R i m :=
 zcI (fun i o e m ho=>hR i o e m (by rw [←Array.getElem?_toList];exact ho)) ops.toList [] (fun k=>by simp) (fun i m hb=>by simp at hb) i m h
theorem z0C {ops:Array Oper} {m i:Nat} (h:Bef ops m i) {p:Nat→Prop} (hp:Cl ops p) (hi:p i):p m :=
 zfv (R:=fun i m=>∀ p,Cl ops p→p i→p m) (fun i o e m ho he hb hm p hp hi=>by
  have:=hp i o ho hi e he hb
  rcases hm with rfl | hm
  ·exact this
  ·exact hm p hp this) h p hp hi
theorem z1D {ops:Array Oper} (hE:∀ i o e,ops[i]? = some o→e∈o.after.toList→Region.binds .any e=true→e.on<i) {m i:Nat} (h:Bef ops m i):m<i :=
 zfv (R:=fun i m=>m<i) (fun i o e m ho he hb hm=>by
  have:=hE i o e ho he hb
  rcases hm with rfl | hm
  ·exact this
  ·omega) h
theorem zmk {ops:Array Oper} (hE:∀ i o e,ops[i]? = some o→e∈o.after.toList→Region.binds .any e=true→e.on<i) (i:Nat):Cl ops (fun m=>Bef ops m i):=by
 have key:∀ (l:List Oper) (acc:List Nat),(∀ k,l[k]? = ops.toList[acc.length+k]?) →
   (∀ k,k<acc.length→∀ m o e,((acc[k]?).getD 0).testBit m=true→ops.toList[m]? = some o→e∈o.after.toList→Region.binds .any e=true→((acc[k]?).getD 0).testBit e.on=true) →
   (∀ k,k<acc.length→∀ o e,ops.toList[k]? = some o→e∈o.after.toList→Region.binds .any e=true→((acc[k]?).getD 0).testBit e.on=true) →
   ∀ k,k<(z4M l acc).length→∀ m o e,(((z4M l acc)[k]?).getD 0).testBit m=true→ops.toList[m]? = some o→e∈o.after.toList→Region.binds .any e=true→(((z4M l acc)[k]?).getD 0).testBit e.on=true:=by
  have hmask:∀ (acc:List Nat) (l:List Edge) (e:Edge),e∈l→Region.binds .any e=true→(z1w acc l).testBit e.on=true∧∀ m,((acc[e.on]?).getD 0).testBit m=true→(z1w acc l).testBit m=true:=by
   intro acc l
   induction l with
   | nil=>intro e he;cases he
   | cons d l ih =>
    intro e he hb
    unfold z1w
    rcases List.mem_cons.1 he with rfl | he
    ·rw [hb]
     show ((2 ^ e.on ||| (acc[e.on]?).getD 0) ||| z1w acc l).testBit e.on=true∧∀ m,_→((2 ^ e.on ||| (acc[e.on]?).getD 0) ||| z1w acc l).testBit m=true
     refine ⟨by simp [Nat.testBit_or,Nat.testBit_two_pow],fun m hm=>by simp [Nat.testBit_or,hm]⟩
    ·obtain ⟨h1,h2⟩:=ih e he hb
     cases hd:Region.binds .any d with
     | false=>exact ⟨h1,h2⟩
     | true =>
      show ((2 ^ d.on ||| (acc[d.on]?).getD 0) ||| z1w acc l).testBit e.on=true∧∀ m,_→((2 ^ d.on ||| (acc[d.on]?).getD 0) ||| z1w acc l).testBit m=true
      refine ⟨by simp [Nat.testBit_or,h1],fun m hm=>by simp [Nat.testBit_or,h2 m hm]⟩
  intro l
  induction l with
  | nil=>intro acc _ h _;exact h
  | cons o l ih =>
   intro acc hl h h'
   have hlen:∀ k,k<(acc++[z1w acc o.after.toList]).length→k<acc.length∨k=acc.length:=fun k hk=>by simp at hk;omega
   have ho:ops.toList[acc.length]? = some o:=by have:=hl 0;simpa using this.symm
   have hself:((acc++[z1w acc o.after.toList])[acc.length]?).getD 0=z1w acc o.after.toList:=by simp
   refine ih (acc++[z1w acc o.after.toList]) (fun k=>?_) ?_ ?_
   ·have:=hl (k+1)
    simpa [Nat.add_assoc,Nat.add_comm 1 k] using this
   ·intro k hk m o' e hm ho' he hb
    rcases hlen k hk with hk | rfl
    ·rw [List.getElem?_append_left hk] at hm ⊢;exact h k hk m o' e hm ho' he hb
    ·rw [hself] at hm ⊢
     obtain ⟨e2,h1,h2,h3⟩:=z2G acc _ m hm
     have hlt:e2.on<acc.length:=hE acc.length o e2 (by rw [←Array.getElem?_toList];exact ho) h1 h2
     refine (hmask acc _ e2 h1 h2).2 _ ?_
     rcases h3 with rfl | h3
     ·exact h' _ hlt o' e ho' he hb
     ·exact h _ hlt m o' e h3 ho' he hb
   ·intro k hk o' e ho' he hb
    rcases hlen k hk with hk | rfl
    ·rw [List.getElem?_append_left hk];exact h' k hk o' e ho' he hb
    ·rw [hself]
     rw [ho] at ho';cases ho'
     exact (hmask acc _ e he hb).1
 intro m o ho hm e he hb
 have hi:i<(z4M ops.toList []).length:=by
  rcases Nat.lt_or_ge i (z4M ops.toList []).length with h | h
  ·exact h
  ·unfold Bef at hm;rw [List.getElem?_eq_none h] at hm;simp at hm
 exact key ops.toList [] (fun k=>by simp) (fun k hk=>by simp at hk) (fun k hk=>by simp at hk) i hi m o e hm (by rw [Array.getElem?_toList];exact ho) he hb
theorem compL_iff {ops:Array Oper} {i k:Nat}:z6I (z4M ops.toList []) i k=true ↔ Bef ops k i∨Bef ops i k:=by
 unfold z6I Bef;simp
theorem z4X {b:Nat}:∀ {k:Nat},zbs b k=true→∀ m,m<k→b.testBit m=true
 | 0,_,m,hm=>by omega
 | k+1,h,m,hm=>by
  simp only [zbs,yw] at h
  by_cases e:m=k
  ·rw [e];exact h.1
  ·exact z4X h.2 m (by omega)
theorem z6R {i:Nat}:∀ {l:List Nat},zad i l=true→∀ (k b:Nat),l[k]? = some b→b.testBit i=true
 | [],_,k,b,h=>by simp at h
 | c::l,h,k,b,hb=>by
  simp only [zad,yw] at h
  cases k with
  | zero=>simp at hb;subst hb;exact h.1
  | succ k=>exact z6R h.2 k b (by simpa using hb)
theorem z2F {ops:Array Oper} {i:Nat} (h:uni (z4M ops.toList []) i=true):∀ k,k<ops.size→k≠i→Bef ops k i∨Bef ops i k:=by
 intro k hk hne
 simp only [uni,yw] at h
 by_cases hlt:k<i
 ·exact .inl (z4X h.1 k hlt)
 ·refine .inr ?_
  have hlen:=z9c ops.toList []
  simp only [List.length_nil,Nat.zero_add,Array.length_toList] at hlen
  have hk2:k<(z4M ops.toList []).length:=by omega
  unfold Bef
  rw [List.getElem?_eq_getElem hk2]
  refine z6R h.2 (k - (i+1)) _ ?_
  rw [List.getElem?_drop,show i+1+(k - (i+1))=k by omega,List.getElem?_eq_getElem hk2]
  rfl
structure Drawn (ops:Array Oper):Prop where
 edge:∀ i o e,ops[i]? = some o→e∈o.after.toList→Region.binds .any e=true→e.on<i
 apart:∀ i k x y,ops[i]? = some x→ops[k]? = some y→i<k→Bef ops i k∨((∀ d,x.dst=some d→d ∉ readsOf ops y∧y.dst≠some d)∧∀ d,y.dst=some d→d ∉ readsOf ops x)
theorem z5Y {ops:Array Oper} {y:Oper} {b:Nat}:∀ (l:List Oper) (i:Nat),z5Z ops y b l i=true→∀ k x,l[k]? = some x→ze5 ops x y b (i+k)=true
 | [],i,_,k,x,h=>by simp at h
 | z::l,i,h,k,x,hx=>by
  simp only [z5Z,yw] at h
  cases k with
  | zero=>simp at hx;subst hx;exact h.1
  | succ k =>
   have:=z5Y l (i+1) h.2 k x (by simpa using hx)
   rwa [Nat.add_right_comm] at this
theorem zcz {ops:Array Oper} (h:z94 ops (z4M ops.toList []) ops.toList 0=true):Drawn ops:=by
 have key:∀ (l:List Oper) (k:Nat),z94 ops (z4M ops.toList []) l k=true→∀ m y,l[m]? = some y→zj6 (k+m) y.after.toList=true∧z5Z ops y (((z4M ops.toList [])[k+m]?).getD 0) (ops.toList.take (k+m)) 0=true:=by
  intro l
  induction l with
  | nil=>intro k _ m y h;simp at h
  | cons z l ih =>
   intro k h m y hy
   simp only [z94,yw] at h
   cases m with
   | zero=>simp at hy;subst hy;exact ⟨h.1.1,h.1.2⟩
   | succ m =>
    have:=ih (k+1) h.2 m y (by simpa using hy)
    rwa [Nat.add_right_comm] at this
 refine ⟨fun i o e ho he hb=>?_,fun i k x y hx hy hik=>?_⟩
 ·have:=(key ops.toList 0 h i o (by rw [Array.getElem?_toList];exact ho)).1
  rw [Nat.zero_add] at this
  have:=List.all_eq_true.1 this e he
  simpa [hb] using this
 ·have:=(key ops.toList 0 h k y (by rw [Array.getElem?_toList];exact hy)).2
  rw [Nat.zero_add] at this
  have:=z5Y _ 0 this i x (by rw [List.getElem?_take,if_pos hik,Array.getElem?_toList];exact hx)
  rw [Nat.zero_add] at this
  simp only [ze5,Bool.or_eq_true,Bool.not_eq_true'] at this
  rcases this with this | this
  ·exact .inl this
  ·refine .inr ?_
   rw [Bool.or_eq_false_iff] at this
   refine ⟨fun d hd=>?_,fun d hd=>?_⟩
   ·have h1:=this.1
    rw [hd] at h1
    simp only [zfo,List.contains_eq_mem,decide_eq_false_iff_not,List.mem_append,not_or] at h1
    exact ⟨h1.1,fun e=>h1.2 (by rw [e];simp)⟩
   ·have h1:=this.2
    rw [hd] at h1
    simpa [zfo] using h1
structure Way (G:Good) (callF:z1f) (codeF:z15) (ops:Array Oper) (T:Nat→Fr) (S R:Nat→St) (D:Nat→Dr) (i n:Nat):Prop where
 step:∀ k,i≤k→k<n→∃ o,ops[k]? = some o∧zq G.E callF codeF ops o (T k) ⟨(S k).heap,(S k).size,(S k).size⟩=some (T (k+1),R k) ∧
  S (k+1)=⟨(R k).heap,(R k).size,Nat.min (S k).low (R k).low⟩∧z0s ops (z4M ops.toList []) k (T k) (S k).size (R k).low o.op (D k)=some (D (k+1))
theorem zlF {G:Good} {callF:z1f} {codeF:z15} {ops:Array Oper}:∀ (l:List Oper) (i:Nat) (D0:Dr) (T0:Fr) (S0:St) (r:Fr×St),z4g G.E callF codeF ops (z4M ops.toList []) l i D0 T0 S0=some r →
  (∀ k,l[k]? = ops[i+k]?)→∃ T S R D,T i=T0∧S i=S0∧D i=D0∧Way G callF codeF ops T S R D i (i+l.length)∧r=(T (i+l.length),S (i+l.length))
 | [],i,D0,T0,S0,r,h,_=>by
  cases h
  exact ⟨fun _=>T0,fun _=>S0,fun _=>S0,fun _=>D0,rfl,rfl,rfl,⟨fun k h1 h2=>by simp at h2;omega⟩,rfl⟩
 | o::l,i,D0,T0,S0,r,h,hl=>by
  obtain ⟨q,hq,h1⟩:=z8 h
  obtain ⟨D',hD,h2⟩:=z8 h1
  have ho:ops[i]? = some o:=by have:=hl 0;simpa using this.symm
  obtain ⟨T,S,R,D,e1,e2,e3,hw,hr⟩:=zlF l (i+1) D' q.1 _ r h2 (fun k=>by have:=hl (k+1);simpa [Nat.add_assoc,Nat.add_comm 1 k] using this)
  have hlen:i+(o::l).length=i+1+l.length:=by simp;omega
  refine ⟨fun k=>if k=i then T0 else T k,fun k=>if k=i then S0 else S k,fun k=>if k=i then q.2 else R k,fun k=>if k=i then D0 else D k,by simp,by simp,by simp,⟨fun k hk1 hk2=>?_⟩,?_⟩
  ·by_cases hk:k=i
   ·subst hk
    refine ⟨o,ho,?_,?_,?_⟩
    ·simp only [if_true,if_neg (show ¬ k+1=k by omega),e1];exact hq
    ·simp only [if_true,if_neg (show ¬ k+1=k by omega),e2]
    ·simp only [if_true,if_neg (show ¬ k+1=k by omega),e3];exact hD
   ·obtain ⟨o',h3,h4,h5,h6⟩:=hw.step k (by omega) (by omega)
    refine ⟨o',h3,?_,?_,?_⟩
    ·simp only [if_neg hk,if_neg (show ¬ k+1=i by omega)];exact h4
    ·simp only [if_neg hk,if_neg (show ¬ k+1=i by omega)];exact h5
    ·simp only [if_neg hk,if_neg (show ¬ k+1=i by omega)];exact h6
  ·rw [hr,hlen]
   simp only [if_neg (show ¬ i+1+l.length=i by omega)]
noncomputable section
def kill (S:St) (l:List Nat):St:=⟨l.foldl (fun h X=>h.set X .dead) S.heap,S.size,S.low⟩
theorem z2M (S:St) (l:List Nat) (b:Nat):(kill S l).heap.get b=if b∈l then some .dead else S.heap.get b:=by
 have:∀ (l:List Nat) (h:Tr Yg),(l.foldl (fun h X=>h.set X .dead) h).get b=if b∈l then some .dead else h.get b:=by
  intro l
  induction l with
  | nil=>intro h;simp
  | cons X l ih =>
   intro h
   rw [List.foldl_cons,ih,Tr.get_set]
   by_cases h1:b∈l
   ·simp [h1]
   ·by_cases h2:b=X
    ·simp [h2]
    ·simp [h1,h2]
 exact this l S.heap
theorem z3g {S:St} {l:List Nat} {b:Nat} (h:b ∉ l):(kill S l).cells b=S.cells b:=by
 unfold St.cells;rw [z2M,if_neg h]
def z4n (l:List Nat) (S' Sk:St):Prop:=Sk.size=S'.size∧Sk.low=S'.low∧∀ b,Sk.heap.get b=if b∈l then some .dead else S'.heap.get b
theorem z01 (S:St) (l:List Nat):z4n l S (kill S l):=⟨rfl,rfl,z2M S l⟩
theorem z0O {S Sk:St} {l:List Nat} (h:z4n l S Sk) (hl:∀ X∈l,X<S.size) (o:Yg):z4n l (S.new o) (Sk.new o):=by
 obtain ⟨h1,h2,h3⟩:=h
 refine ⟨by show Nat.succ Sk.size=Nat.succ S.size;rw [h1],h2,fun b=>?_⟩
 rw [z0j,z0j,h1,h3]
 by_cases hb:b=S.size
 ·have:b ∉ l:=fun hm=>by have:=hl b hm;omega
  simp [hb,this,hb ▸ this]
 ·simp [hb]
theorem z1k {S Sk:St} {l:List Nat} (h:z4n l S Sk) {c:Nat} (hc:c ∉ l) (o:Yg):z4n l (S.put c o) (Sk.put c o):=by
 obtain ⟨h1,h2,h3⟩:=h
 refine ⟨h1,by show Nat.min c Sk.low=Nat.min c S.low;rw [h2],fun b=>?_⟩
 rw [get_put,get_put,h3]
 by_cases hb:b=c
 ·subst hb;simp [hc]
 ·simp [hb]
section
variable {E:Env} {callF:z1f} {codeF:z15} {T:Fr} {S:St} {l:List Nat}
theorem zgb {x:Option Value} {r:Value×St} (h:zG S x=some r):∃ Sk,zG (kill S l) x=some (r.1,Sk)∧z4n l r.2 Sk:=by
 obtain ⟨h1,h2⟩:=z1T h
 rw [h1,h2]
 exact ⟨_,rfl,z01 S l⟩
theorem z7B {b:Nat} (hb:b ∉ l):rdc E (kill S l) b=rdc E S b:=by
 unfold rdc;rw [z3g hb]
theorem zkp {a:Addr} (hb:a.block ∉ l):rda E (kill S l) a=rda E S a:=by
 unfold rda;rw [z7B hb,z3g hb]
theorem zih {b n:Nat} {sp:Option Nat} {off:Nat} (hb:b ∉ l):(kill S l).load E ⟨b,off,sp⟩ n=S.load E ⟨b,off,sp⟩ n:=by
 unfold St.load;rw [z7B hb]
theorem zc3 {t:TypeId} {a:Addr} (ha:a.block ∉ l):z0e E t a (kill S l)=z0e E t a S:=by
 obtain ⟨b,off,sp⟩:=a
 unfold z0e
 simp only [zih (E:=E) (S:=S) (l:=l) (sp:=sp) (off:=off) ha,z7B (E:=E) (S:=S) ha]
theorem zfO {S Sk:St} {a:Addr} (hk:z4n l S Sk) (ha:a.block ∉ l):z4n l (S.spent a) (Sk.spent a):=by
 cases h:a.spot with
 | none=>rw [z2W h,z2W h];exact hk
 | some i=>rw [z2m h,z2m h];exact z1k hk ha _
theorem zcF {size n:Nat} {x:Value} {ls:List Nat} (hx:∀ a n c,x = .slice (some a) n c→a.block ∉ l):z0E E size n x (kill S l)=z0E E size n x S:=by
 unfold z0E
 split
 ·rename_i a n0 c0;rw [z7B (hx a n0 c0 rfl)]
 ·rfl
 ·rfl
 ·rfl
theorem ze3 {e:LTy} {elem:TypeId} {s:Value} {new:List Value} {k:Nat} {r:Value×St} (hl:∀ X∈l,X<S.size) (hs:∀ a n c,s = .slice (some a) n c→a.block ∉ l) (h:z2a E e elem s new k S=some r) :
  ∃ Sk,z2a E e elem s new k (kill S l)=some (r.1,Sk)∧z4n l r.2 Sk:=by
 obtain ⟨q,hq,h1⟩:=z8 h
 obtain ⟨qa,qn,qc⟩:=q
 have hsl:=z1i hq
 dsimp only at hsl h1
 unfold z2a
 rw [hq]
 show ∃ Sk,bf (Nat.beq k 0) (some (s,kill S l)) _=some (r.1,Sk)∧_
 by_cases hk:Nat.beq k 0=true
 ·rw [hk] at h1 ⊢
  cases h1
  exact ⟨_,rfl,z01 S l⟩
 ·have hk:Nat.beq k 0=false:=Bool.eq_false_iff.mpr hk
  rw [hk] at h1 ⊢
  obtain ⟨hc,h2⟩:=ze h1
  rw [hc]
  cases qa with
  | none =>
   obtain ⟨hz,h3⟩:=ze h2
   cases h3
   refine ⟨(kill S l).new (.cells new elem),?_,z0O (z01 S l) hl _⟩
   show gd _ _=_
   rw [hz];rfl
  | some a =>
   have ha:=hs a qn qc hsl
   obtain ⟨cs,hcs,h3⟩:=z8 h2
   obtain ⟨hel,h4⟩:=ze h3
   show ∃ Sk,z0W E e elem a qn qc new k (kill S l)=some (r.1,Sk)∧_
   unfold z0W
   rw [zkp ha,hcs]
   show ∃ Sk,gd (Option.rec true (fun _=>Nat.beq cs.2 elem) a.spot) _=some (r.1,Sk)∧_
   rw [hel]
   by_cases hb:Nat.ble (Nat.add qn k) qc=true
   ·rw [hb] at h4 ⊢
    obtain ⟨cs2,hcs2,h4⟩:=z8 h4
    obtain ⟨d,hd,h5⟩:=z8 h4
    cases h5
    refine ⟨(kill S l).put a.block (.cells d cs2.2),?_,z1k (z01 S l) ha _⟩
    show ob ((kill S l).cells a.block) _=_
    rw [z3g ha,hcs2]
    show ob (paste cs2.1 (a.off+qn*e.size) new) _=_
    rw [hd];rfl
   ·have hb:Nat.ble (Nat.add qn k) qc=false:=Bool.eq_false_iff.mpr hb
    rw [hb] at h4 ⊢
    obtain ⟨d,hd,h5⟩:=z8 h4
    cases h5
    refine ⟨((kill S l).spent a).new (.cells (d++new) elem),?_,z0O (zfO (z01 S l) ha) (fun X hX=>?_) _⟩
    ·show ob (cut cs.1 a.off (qn*e.size)) _=_
     rw [hd];rfl
    ·have:(S.spent a).size=S.size:=by
      cases h:a.spot with
      | none=>rw [z2W h]
      | some i=>rw [z2m h];rfl
     rw [this];exact hl X hX
theorem znj {o:Op} {r:Value×St} {lt:List Nat} (hl:∀ X∈l,X<S.size) (ht:zH T o=some lt) (hd:∀ X∈lt,X ∉ l) (h:zR E callF codeF T S o=some r) :
  ∃ Sk,zR E callF codeF T (kill S l) o=some (r.1,Sk)∧z4n l r.2 Sk:=by
 cases o <;> simp only [zR] at h ⊢ <;> first | (cases h;done) | (exact zgb h) | skip
 case alloc t =>
  obtain ⟨i,hi,h1⟩:=z8 h
  cases h1
  exact ⟨_,by unfold zdn;rw [hi];rfl,z0O (z01 S l) hl _⟩
 case box t x =>
  obtain ⟨v,hv,h1⟩:=z8 h
  cases h1
  exact ⟨_,by unfold znl;rw [hv];rfl,z0O (z01 S l) hl _⟩
 case buildSlice t len parts =>
  obtain ⟨i,hi,h1⟩:=z8 h
  obtain ⟨elem,he,h2⟩:=z8 h1
  obtain ⟨ps,hps,h3⟩:=z8 h2
  obtain ⟨e,hee,h4⟩:=z8 h3
  obtain ⟨hc,h5⟩:=ze h4
  obtain ⟨c,hcc,h6⟩:=z8 h5
  cases h6
  refine ⟨(kill S l).new (.cells c elem),?_,z0O (z01 S l) hl _⟩
  unfold z3X
  simp only [ob,hi,he,hps,hee,gd,hc,hcc]
  rfl
 case load t a =>
  obtain ⟨h1,h2⟩:=z1T h
  obtain ⟨p,hp,h3⟩:=z8 h1
  have hpl:p.block ∉ l:=by
   change ob (ob (T.ev a) addrOf) (fun p=>some [p.block])=some lt at ht
   rw [hp] at ht;cases ht
   exact hd _ (by simp)
  refine ⟨kill S l,?_,by rw [h2];exact z01 S l⟩
  unfold zi2
  rw [hp]
  show zG (kill S l) (z0e E t p (kill S l))=_
  rw [zc3 hpl,h3];rfl
 case store t a x =>
  obtain ⟨p,hp,h1⟩:=z8 h
  obtain ⟨v,hv,h2⟩:=z8 h1
  obtain ⟨S1,hS,h3⟩:=z8 h2
  cases h3
  have hpl:p.block ∉ l:=by
   change ob (ob (T.ev a) addrOf) (fun p=>some [p.block])=some lt at ht
   rw [hp] at ht;cases ht
   exact hd _ (by simp)
  obtain ⟨i,hi,h4⟩:=z8 hS
  obtain ⟨hsz,h5⟩:=ze h4
  obtain ⟨hsp,h6⟩:=z0l h5
  obtain ⟨c,hc,h7⟩:=z8 h6
  obtain ⟨hsc,h8⟩:=ze h7
  obtain ⟨d,hdd,h9⟩:=z8 h8
  cases h9
  refine ⟨(kill S l).put p.block (.cells d c.2),?_,z1k (z01 S l) hpl _⟩
  unfold zdm
  rw [hp,hv]
  show ob (z0Y E t p v (kill S l)) _=_
  unfold z0Y
  rw [hi]
  show ob (gd (Nat.beq v.cells.size i.size) ((kill S l).store p v.cells.toList)) _=_
  rw [hsz]
  show ob ((kill S l).store p v.cells.toList) _=_
  unfold St.store z3b
  rw [hsp,z3g hpl,hc]
  show ob (gd (v.cells.toList.all scalar) (ob (paste c.1 p.off v.cells.toList) _)) _=_
  rw [hsc,hdd];rfl
 case makeMap t rr =>
  cases rr with
  | some _=>cases h
  | none =>
   cases h
   exact ⟨_,rfl,z0O (z01 S l) hl _⟩
 case makeSlice t a b =>
  obtain ⟨u,hu,h1⟩:=z8 h
  obtain ⟨u2,hu2,h2⟩:=z8 h1
  obtain ⟨i,hi,h3⟩:=z8 h2
  obtain ⟨elem,he,h4⟩:=z8 h3
  obtain ⟨e,hee,h5⟩:=z8 h4
  obtain ⟨n,hn,h6⟩:=z8 h5
  obtain ⟨c,hc,h7⟩:=z8 h6
  obtain ⟨hcond,h8⟩:=ze h7
  cases h8
  refine ⟨(kill S l).new (.cells (zeros e.zero.cells.toList c) elem),?_,z0O (z01 S l) hl _⟩
  simp only [ob,hu,hu2,z2p,hi,he,hee,hn,hc,z6B,gd,hcond]
  rfl
 case slice t x lo hi mx =>
  obtain ⟨h1,h2⟩:=z1T h
  obtain ⟨v,hv,h3⟩:=z8 h1
  refine ⟨kill S l,?_,by rw [h2];exact z01 S l⟩
  have hbl:∀ a n c,v = .slice (some a) n c→a.block ∉ l:=by
   intro a n c e
   change ob (T.ev x) zeu=some lt at ht
   rw [hv,e] at ht
   cases ht
   exact hd _ (by simp [z5p])
  rw [hv]
  show zG (kill S l) (z2d E t v T lo hi mx (kill S l))=_
  have:z2d E t v T lo hi mx (kill S l)=z2d E t v T lo hi mx S:=by
   unfold z2d
   congr 1
   funext i
   split
   ·rfl
   ·rename_i elem a n c _
    congr 1
    funext e
    congr 1
    unfold z3i
    cases a with
    | none=>rfl
    | some a =>
     show (Option.rec (motive:=fun _=>Bool) true (fun _=>Option.rec (motive:=fun _=>Bool) false (fun c=>Nat.beq c.2 elem) ((kill S l).cells a.block)) a.spot)=_
     rw [z3g (hbl a n c rfl)]
   ·rfl
  rw [this,h3];rfl
 case lookup t x k ok =>
  obtain ⟨h1,h2⟩:=z1T h
  obtain ⟨m,hm,h3⟩:=z8 h1
  obtain ⟨i,hi,h4⟩:=z8 h3
  refine ⟨kill S l,?_,by rw [h2];exact z01 S l⟩
  have:mapOf (kill S l) m=mapOf S m:=by
   change ob (T.ev x) z3c=some lt at ht
   rw [hm] at ht
   unfold mapOf
   split
   ·rfl
   ·rename_i r
    cases ht
    rw [z2M,if_neg (hd r (by simp))]
   ·rfl
  rw [hm,hi]
  show zG (kill S l) (z0n E t m i ok (kill S l))=_
  unfold z0n
  rw [this]
  change z0n E t m i ok S=_ at h4
  unfold z0n at h4
  rw [h4];rfl
 case mapUpdate t m k x =>
  obtain ⟨u,hu,h1⟩:=z8 h
  obtain ⟨u2,hu2,h2⟩:=z8 h1
  obtain ⟨u3,hu3,h3⟩:=z8 h2
  obtain ⟨S1,hS,h4⟩:=z8 h3
  cases h4
  obtain ⟨i,hi,h5⟩:=z8 hS
  obtain ⟨d,hdd,h6⟩:=z8 h5
  obtain ⟨kt,hkt,h7⟩:=z8 h6
  obtain ⟨rr,hrr,h8⟩:=z8 h7
  obtain ⟨es,hes,h9⟩:=z8 h8
  obtain ⟨hkk,h10⟩:=ze h9
  obtain ⟨f,hf,h11⟩:=z8 h10
  cases h11
  have hrl:rr ∉ l:=by
   change ob (T.ev m) z3c=some lt at ht
   rw [hu,z0o hrr] at ht
   cases ht
   exact hd rr (by simp)
  refine ⟨(kill S l).put rr (.map (z2Y es u2 u3 f)),?_,z1k (z01 S l) hrl _⟩
  rw [hu,hu2,hu3]
  show ob (z1Y E t u u2 u3 (kill S l)) _=_
  unfold z1Y
  rw [hi]
  show ob (ob (mapD i.desc) _) _=_
  rw [hdd]
  show ob (ob (E.ti.get d.1) _) _=_
  rw [hkt]
  show ob (ob (z3M u) _) _=_
  rw [hrr]
  show ob (ob (ob ((kill S l).heap.get rr) z8x) _) _=_
  rw [z2M,if_neg hrl,hes]
  show ob (gd (z2K E kt u2) (ob (z7v E d.1 u2 es) _)) _=_
  rw [hkk,hf];rfl
 case mapEntry t m k =>
  obtain ⟨u,hu,h1⟩:=z8 h
  obtain ⟨u2,hu2,h2⟩:=z8 h1
  obtain ⟨i,hi,h5⟩:=z8 h2
  obtain ⟨d,hdd,h6⟩:=z8 h5
  obtain ⟨kt,hkt,h7⟩:=z8 h6
  obtain ⟨et,het,h7⟩:=z8 h7
  obtain ⟨rr,hrr,h8⟩:=z8 h7
  obtain ⟨es,hes,h9⟩:=z8 h8
  obtain ⟨hkk,h10⟩:=ze h9
  obtain ⟨f,hf,h11⟩:=z8 h10
  have hrl:rr ∉ l:=by
   change ob (T.ev m) z3c=some lt at ht
   rw [hu,z0o hrr] at ht
   cases ht
   exact hd rr (by simp)
  have key:z7f E t u u2 (kill S l)=(Option.rec (some (.tuple #[et.zero,.int .i64 es.length],(kill S l).put rr (.map (es++[(u2,et.zero)])))) (fun q=>some (.tuple #[q.2,.int .i64 q.1],(kill S l).put rr (.map es))) f:Option (Value×St)):=by
   unfold z7f
   rw [hi]
   show ob (mapD i.desc) _=_
   rw [hdd]
   show ob (E.ti.get d.1) _=_
   rw [hkt]
   show ob (E.ti.get d.2) _=_
   rw [het]
   show ob (z3M u) _=_
   rw [hrr]
   show ob (ob ((kill S l).heap.get rr) z8x) _=_
   rw [z2M,if_neg hrl,hes]
   show gd (z2K E kt u2) (ob (z7v E d.1 u2 es) _)=_
   rw [hkk,hf];rfl
  rw [hu,hu2]
  cases f with
  | none =>
   cases h11
   exact ⟨_,key,z1k (z01 S l) hrl _⟩
  | some q =>
   cases h11
   exact ⟨_,key,z1k (z01 S l) hrl _⟩
 case entryStore t m k x =>
  obtain ⟨u,hu,h1⟩:=z8 h
  obtain ⟨u2,hu2,h2⟩:=z8 h1
  obtain ⟨u3,hu3,h3⟩:=z8 h2
  obtain ⟨S1,hS,h4⟩:=z8 h3
  cases h4
  obtain ⟨rr,hrr,h8⟩:=z8 hS
  obtain ⟨es,hes,h9⟩:=z8 h8
  obtain ⟨n,hn,h10⟩:=z8 h9
  obtain ⟨p,hp,h11⟩:=z8 h10
  cases h11
  have hrl:rr ∉ l:=by
   change ob (T.ev m) z3c=some lt at ht
   rw [hu,z0o hrr] at ht
   cases ht
   exact hd rr (by simp)
  refine ⟨(kill S l).put rr (.map (es.set n (p.1,u3))),?_,z1k (z01 S l) hrl _⟩
  rw [hu,hu2,hu3]
  show ob (z2C u u2 u3 (kill S l)) _=_
  unfold z2C
  rw [hrr]
  show ob (ob (ob ((kill S l).heap.get rr) z8x) _) _=_
  rw [z2M,if_neg hrl,hes]
  show ob (ob (z3N u2) _) _=_
  rw [hn]
  show ob (ob es[n]? _) _=_
  rw [hp];rfl
 case range t x =>
  obtain ⟨u,hu,h1⟩:=z8 h
  obtain ⟨i,hi,h2⟩:=z8 h1
  rw [hu]
  show ∃ Sk,z6x E t u (kill S l)=some (r.1,Sk)∧_
  unfold z6x
  rw [hi]
  show ∃ Sk,(match i.desc,u with
   | .string,.string s=>some (ptr (kill S l).size 0,(kill S l).new (.strIter s 0))
   | .map _ _,.map none=>some (ptr (kill S l).size 0,(kill S l).new .nilIter)
   | _,_=>none)=some (r.1,Sk)∧_
  split at h2
  ·rename_i hD;cases h2
   rw [hD]
   exact ⟨_,rfl,z0O (z01 S l) hl _⟩
  ·rename_i hD;cases h2
   rw [hD]
   exact ⟨_,rfl,z0O (z01 S l) hl _⟩
  ·cases h2
 case next x str =>
  obtain ⟨u,hu,h1⟩:=z8 h
  obtain ⟨a,ha,h2⟩:=z8 h1
  obtain ⟨hoff,h3⟩:=ze h2
  obtain ⟨hsp,h4⟩:=z0l h3
  obtain ⟨oo,hoo,h5⟩:=z8 h4
  have hal:a.block ∉ l:=by
   change ob (ob (T.ev x) addrOf) (fun p=>some [p.block])=some lt at ht
   rw [hu] at ht
   change ob (addrOf u) (fun p=>some [p.block])=some lt at ht
   rw [ha] at ht;cases ht
   exact hd _ (by simp)
  rw [hu]
  show ∃ Sk,z6Y u str (kill S l)=some (r.1,Sk)∧_
  unfold z6Y
  rw [ha]
  show ∃ Sk,gd (Nat.beq a.off 0) (z3b a (ob ((kill S l).heap.get a.block) fun o=>zdr o str a.block (kill S l)))=some (r.1,Sk)∧_
  unfold z3b
  rw [hoff,hsp,z2M,if_neg hal,hoo]
  show ∃ Sk,zdr oo str a.block (kill S l)=some (r.1,Sk)∧_
  unfold zdr at h5 ⊢
  split at h5
  ·cases h5;exact ⟨_,rfl,z01 S l⟩
  ·rename_i s pos
   cases hb:Nat.blt pos s.size with
   | true =>
    rw [hb] at h5
    cases h5
    exact ⟨_,rfl,z1k (z01 S l) hal _⟩
   | false =>
    rw [hb] at h5
    cases h5
    exact ⟨_,rfl,z01 S l⟩
  ·cases h5
 case call c =>
  obtain ⟨args,hargs,h1⟩:=z8 h
  unfold zeQ
  rw [hargs]
  change z2t T c=some lt at ht
  unfold z2t at ht
  split at ht
  ·rename_i hcal
   rw [hcal] at h1
   show ∃ Sk,(match c.callee with
    | .builtin b=>z2O E b c.argTypes.toList args (kill S l)
    | .value f=>ob (T.ev f) fun v=>z4J callF codeF v args (kill S l)
    | .invoke _ _=>none)=some (r.1,Sk)∧_
   rw [hcal]
   change zjs E c.argTypes.toList args S=some r at h1
   show ∃ Sk,zjs E c.argTypes.toList args (kill S l)=some (r.1,Sk)∧_
   obtain ⟨t,htt,h2⟩:=z8 h1
   obtain ⟨x,hx,h3⟩:=z8 h2
   obtain ⟨i,hi,h4⟩:=z8 h3
   obtain ⟨v,hv,h5⟩:=z8 h4
   cases h5
   refine ⟨kill S l,?_,z01 S l⟩
   unfold zjs
   rw [htt,hx]
   show ob (E.ti.get t) _=_
   rw [hi]
   show ob (zf4 i.desc x (kill S l)) _=_
   have:zf4 i.desc x (kill S l)=zf4 i.desc x S:=by
    rw [hargs] at ht
    split at ht
    ·rename_i h;cases h
     cases hx
     unfold zf4
     split <;> first | rfl | (rename_i h _;cases h) | skip
    ·rename_i h;cases h
     cases hx
     unfold zf4
     split <;> first | rfl | (rename_i h _;cases h) | skip
    ·cases ht
   rw [this,hv];rfl
  ·rename_i hcal
   rw [hcal] at h1
   show ∃ Sk,(match c.callee with
    | .builtin b=>z2O E b c.argTypes.toList args (kill S l)
    | .value f=>ob (T.ev f) fun v=>z4J callF codeF v args (kill S l)
    | .invoke _ _=>none)=some (r.1,Sk)∧_
   rw [hcal]
   change z4L E c.argTypes.toList args S=some r at h1
   show ∃ Sk,z4L E c.argTypes.toList args (kill S l)=some (r.1,Sk)∧_
   rw [hargs] at ht
   split at ht
   ·rename_i a n0 c0 b n1 c1 hh
    cases hh
    cases ht
    have ha:∀ a' n c,Value.slice a n0 c0 = .slice (some a') n c→a'.block ∉ l:=by
     intro a' n c e
     cases e
     exact hd _ (by simp [z5p])
    have hb:∀ a' n c,Value.slice b n1 c1 = .slice (some a') n c→a'.block ∉ l:=by
     intro a' n c e
     cases e
     exact hd _ (by simp [z5p])
    obtain ⟨t,htt,h2⟩:=z8 h1
    obtain ⟨u,huu,h3⟩:=z8 h2
    obtain ⟨s,hs,h4⟩:=z8 h3
    obtain ⟨x,hx,h5⟩:=z8 h4
    cases hs;cases hx
    obtain ⟨i,hi,h6⟩:=z8 h5
    obtain ⟨ui,hui,h7⟩:=z8 h6
    obtain ⟨elem,hel,h8⟩:=z8 h7
    obtain ⟨e,hee,h9⟩:=z8 h8
    unfold z4L
    rw [htt,huu]
    show ∃ Sk,ob (E.ti.get t) _=some (r.1,Sk)∧_
    rw [hi]
    show ∃ Sk,ob (E.ti.get u) _=some (r.1,Sk)∧_
    rw [hui]
    show ∃ Sk,ob (z2H i.desc) _=some (r.1,Sk)∧_
    rw [hel]
    show ∃ Sk,ob (E.ti.get elem) _=some (r.1,Sk)∧_
    rw [hee]
    show ∃ Sk,bf (z8G ui.desc) _ _=some (r.1,Sk)∧_
    cases hz:z8G ui.desc with
    | true =>
     rw [hz] at h9
     cases (show (none:Option (Value×St))=some r from h9)
    | false =>
     rw [hz] at h9
     obtain ⟨hsrc,h10⟩:=ze h9
     obtain ⟨k,hk,h11⟩:=z8 h10
     obtain ⟨new,hnew,h12⟩:=z8 h11
     obtain ⟨Sk,h13,h14⟩:=ze3 hl ha h12
     refine ⟨Sk,?_,h14⟩
     show gd (zio ui.desc) (ob (z2R (.slice b n1 c1)) fun k=>ob (z0E E e.size k (.slice b n1 c1) (kill S l)) fun new=>z2a E e elem (.slice a n0 c0) new k (kill S l))=_
     rw [hsrc,hk]
     show ob (z0E E e.size k (.slice b n1 c1) (kill S l)) _=_
     rw [zcF (ls:=[]) hb,hnew]
     exact h13
   ·cases ht
  ·cases ht
theorem zd8 {o:Op} {r:Value×St} {X:Nat} (hX:storeAt T o=some X) (h:zR E callF codeF T S o=some r):∀ b,b<S.size→b≠X→r.2.heap.get b=S.heap.get b:=by
 intro b hb hne
 cases o <;> simp only [storeAt] at hX <;> first | (cases hX;done) | skip
 case store t a x =>
  obtain ⟨p,hp,h1⟩:=z8 h
  rw [hp] at hX
  cases hX
  obtain ⟨v,hv,h2⟩:=z8 h1
  obtain ⟨S1,hS,h3⟩:=z8 h2
  cases h3
  obtain ⟨i,hi,h4⟩:=z8 hS
  obtain ⟨hsz,h5⟩:=ze h4
  obtain ⟨hsp,h6⟩:=z0l h5
  obtain ⟨c,hc,h7⟩:=z8 h6
  obtain ⟨hsc,h8⟩:=ze h7
  obtain ⟨d,hdd,h9⟩:=z8 h8
  cases h9
  exact (get_put).trans (if_neg hne)
 case mapUpdate t m k x =>
  obtain ⟨u,hu,h1⟩:=z8 h
  obtain ⟨u2,hu2,h2⟩:=z8 h1
  obtain ⟨u3,hu3,h3⟩:=z8 h2
  obtain ⟨S1,hS,h4⟩:=z8 h3
  cases h4
  obtain ⟨i,hi,h5⟩:=z8 hS
  obtain ⟨d,hdd,h6⟩:=z8 h5
  obtain ⟨kt,hkt,h7⟩:=z8 h6
  obtain ⟨rr,hrr,h8⟩:=z8 h7
  obtain ⟨es,hes,h9⟩:=z8 h8
  obtain ⟨hkk,h10⟩:=ze h9
  obtain ⟨f,hf,h11⟩:=z8 h10
  cases h11
  rw [hu] at hX
  change z3M u=some X at hX
  rw [hrr] at hX
  cases hX
  exact (get_put).trans (if_neg hne)
 case mapEntry t m k =>
  obtain ⟨u,hu,h1⟩:=z8 h
  obtain ⟨u2,hu2,h2⟩:=z8 h1
  obtain ⟨i,hi,h5⟩:=z8 h2
  obtain ⟨d,hdd,h6⟩:=z8 h5
  obtain ⟨kt,hkt,h7⟩:=z8 h6
  obtain ⟨et,het,h7⟩:=z8 h7
  obtain ⟨rr,hrr,h8⟩:=z8 h7
  obtain ⟨es,hes,h9⟩:=z8 h8
  obtain ⟨hkk,h10⟩:=ze h9
  obtain ⟨f,hf,h11⟩:=z8 h10
  rw [hu] at hX
  change z3M u=some X at hX
  rw [hrr] at hX
  cases hX
  cases f with
  | none=>cases h11;exact (get_put).trans (if_neg hne)
  | some q=>cases h11;exact (get_put).trans (if_neg hne)
 case entryStore t m k x =>
  obtain ⟨u,hu,h1⟩:=z8 h
  obtain ⟨u2,hu2,h2⟩:=z8 h1
  obtain ⟨u3,hu3,h3⟩:=z8 h2
  obtain ⟨S1,hS,h4⟩:=z8 h3
  cases h4
  obtain ⟨rr,hrr,h8⟩:=z8 hS
  obtain ⟨es,hes,h9⟩:=z8 h8
  obtain ⟨n,hn,h10⟩:=z8 h9
  obtain ⟨p,hp,h11⟩:=z8 h10
  cases h11
  rw [hu] at hX
  change z3M u=some X at hX
  rw [hrr] at hX
  cases hX
  exact (get_put).trans (if_neg hne)
 case next x str =>
  obtain ⟨u,hu,h1⟩:=z8 h
  obtain ⟨a,ha,h2⟩:=z8 h1
  obtain ⟨hoff,h3⟩:=ze h2
  obtain ⟨hsp,h4⟩:=z0l h3
  obtain ⟨oo,hoo,h5⟩:=z8 h4
  rw [hu] at hX
  change ob (addrOf u) (fun p=>some p.block)=some X at hX
  rw [ha] at hX
  cases hX
  unfold zdr at h5
  split at h5
  ·cases h5;rfl
  ·rename_i s pos
   cases hb:Nat.blt pos s.size with
   | true =>
    rw [hb] at h5
    cases h5
    exact (get_put).trans (if_neg hne)
   | false =>
    rw [hb] at h5
    cases h5;rfl
  ·cases h5
 case call c =>
  obtain ⟨args,hargs,h1⟩:=z8 h
  unfold z0Z at hX
  split at hX
  ·rename_i hcal
   rw [hcal] at h1
   change z4L E c.argTypes.toList args S=some r at h1
   rw [hargs] at hX
   split at hX
   ·rename_i a n0 c0 b1 n1 c1 hh
    cases hh
    cases hX
    obtain ⟨t,htt,h2⟩:=z8 h1
    obtain ⟨u,huu,h3⟩:=z8 h2
    obtain ⟨s,hs,h4⟩:=z8 h3
    obtain ⟨x,hx,h5⟩:=z8 h4
    cases hs;cases hx
    obtain ⟨i,hi,h6⟩:=z8 h5
    obtain ⟨ui,hui,h7⟩:=z8 h6
    obtain ⟨elem,hel,h8⟩:=z8 h7
    obtain ⟨e,hee,h9⟩:=z8 h8
    have key:∀ (new:List Value) (k:Nat),z2a E e elem (.slice (some a) n0 c0) new k S=some r→r.2.heap.get b=S.heap.get b:=by
     intro new k h
     obtain ⟨q,hq,h1⟩:=z8 h
     cases hq
     by_cases hk:Nat.beq k 0=true
     ·rw [hk] at h1;cases h1;rfl
     ·have hk:Nat.beq k 0=false:=Bool.eq_false_iff.mpr hk
      rw [hk] at h1
      obtain ⟨hc,h2⟩:=ze h1
      obtain ⟨cs,hcs,h3⟩:=z8 h2
      obtain ⟨hel,h4⟩:=ze h3
      by_cases hbl:Nat.ble (Nat.add n0 k) c0=true
      ·rw [hbl] at h4
       obtain ⟨cs2,hcs2,h4⟩:=z8 h4
       obtain ⟨d,hd,h5⟩:=z8 h4
       cases h5
       exact (get_put).trans (if_neg hne)
      ·have hbl:Nat.ble (Nat.add n0 k) c0=false:=Bool.eq_false_iff.mpr hbl
       rw [hbl] at h4
       obtain ⟨d,hd,h5⟩:=z8 h4
       cases h5
       cases hsp:a.spot with
       | none =>
        show ((S.spent a).new _).heap.get b=_
        rw [z2W hsp,z0j,if_neg (by omega)]
       | some i =>
        show ((S.spent a).new _).heap.get b=_
        rw [z2m hsp,z0j,if_neg (by show b≠S.size;omega),get_put,if_neg hne]
    cases hz:z8G ui.desc with
    | true =>
     rw [hz] at h9
     cases (show (none:Option (Value×St))=some r from h9)
    | false =>
     rw [hz] at h9
     obtain ⟨hsrc,h10⟩:=ze h9
     obtain ⟨k,hk,h11⟩:=z8 h10
     obtain ⟨new,hnew,h12⟩:=z8 h11
     exact key new k h12
   ·cases hX
  ·cases hX
theorem zhp {o:Op} {X:Nat} {j:Inj} {ρ : Operand→Value} (hX:storeAt T o=some X) (hr:RelOps j T ρ o.operands.toList):∃ x,j X=some x:=by
 cases o <;> simp only [storeAt] at hX <;> first | (cases hX;done) | skip
 case store t a x =>
  obtain ⟨p,hp,h1⟩:=z8 hX
  cases h1
  obtain ⟨u,hu,h2⟩:=z8 hp
  have:=z1e h2;subst this
  obtain ⟨_,_,_,x,hx,_⟩:=(hr a (by simp [Op.operands]) _ hu).ptr_inv
  exact ⟨x,hx⟩
 case mapUpdate t m k x =>
  obtain ⟨u,hu,h1⟩:=z8 hX
  have:=z0o h1;subst this
  have:=hr m (by simp [Op.operands]) _ hu
  generalize ρ m=y at this
  cases this with
  | map h=>exact ⟨_,h⟩
 case mapEntry t m k =>
  obtain ⟨u,hu,h1⟩:=z8 hX
  have:=z0o h1;subst this
  have:=hr m (by simp [Op.operands]) _ hu
  generalize ρ m=y at this
  cases this with
  | map h=>exact ⟨_,h⟩
 case entryStore t m k x =>
  obtain ⟨u,hu,h1⟩:=z8 hX
  have:=z0o h1;subst this
  have:=hr m (by simp [Op.operands]) _ hu
  generalize ρ m=y at this
  cases this with
  | map h=>exact ⟨_,h⟩
 case next a str =>
  obtain ⟨p,hp,h1⟩:=z8 hX
  cases h1
  obtain ⟨u,hu,h2⟩:=z8 hp
  have:=z1e h2;subst this
  obtain ⟨_,_,_,x,hx,_⟩:=(hr a (by simp [Op.operands]) _ hu).ptr_inv
  exact ⟨x,hx⟩
 case call c =>
  unfold z0Z at hX
  split at hX
  ·split at hX
   ·rename_i hargs
    cases hX
    have hra:RelOps j T ρ c.args.toList:=fun x hx=>hr x (by simp only [Op.operands,Call.operands,Array.toList_append];exact List.mem_append_right _ hx)
    have:=RelOps.evs hra hargs
    generalize c.args.toList.map ρ = ys at this
    cases this with
    | cons h _ =>
     cases h with
     | slice h=>obtain ⟨x,hx,_⟩:=h;exact ⟨x,hx⟩
   ·cases hX
  ·cases hX
theorem z4Y {o:Op} {X:Nat} (hX:storeAt T o=some X) {lt:List Nat} (ht:zH T o=some lt):X∈lt:=by
 cases o <;> simp only [storeAt] at hX <;> first | (cases hX;done) | skip
 case store t a x =>
  obtain ⟨p,hp,h1⟩:=z8 hX
  cases h1
  change ob (ob (T.ev a) addrOf) (fun p=>some [p.block])=some lt at ht
  rw [hp] at ht;cases ht;simp
 case mapUpdate t m k x =>
  obtain ⟨u,hu,h1⟩:=z8 hX
  have:=z0o h1;subst this
  change ob (T.ev m) z3c=some lt at ht
  rw [hu] at ht;cases ht;simp
 case mapEntry t m k =>
  obtain ⟨u,hu,h1⟩:=z8 hX
  have:=z0o h1;subst this
  change ob (T.ev m) z3c=some lt at ht
  rw [hu] at ht;cases ht;simp
 case entryStore t m k x =>
  obtain ⟨u,hu,h1⟩:=z8 hX
  have:=z0o h1;subst this
  change ob (T.ev m) z3c=some lt at ht
  rw [hu] at ht;cases ht;simp
 case next a str =>
  obtain ⟨p,hp,h1⟩:=z8 hX
  cases h1
  change ob (ob (T.ev a) addrOf) (fun p=>some [p.block])=some lt at ht
  rw [hp] at ht;cases ht;simp
 case call c =>
  change z2t T c=some lt at ht
  unfold z0Z at hX
  unfold z2t at ht
  split at hX
  ·rename_i hcal
   rw [hcal] at ht
   split at hX
   ·rename_i hargs
    cases hX
    rw [hargs] at ht
    cases ht
    simp [z5p]
   ·cases hX
  ·cases hX
end
end
theorem zoS {E:Env} {callF:z1f} {codeF:z15} {ops:Array Oper} {o:Oper} {T:Fr} {S:St} {r:Fr×St} (h:zq E callF codeF ops o T S=some r):∃ v,T.put o.dst v=some r.1:=by
 obtain ⟨b,_,h1⟩:=z8 h
 cases b with
 | false=>obtain ⟨T',h2,h3⟩:=z8 h1;cases h3;exact ⟨_,h2⟩
 | true =>
  obtain ⟨q,_,h2⟩:=z8 h1
  obtain ⟨T',h3,h4⟩:=z8 h2
  cases h4;exact ⟨_,h3⟩
theorem z8m {T T':Fr} {d:Option Tmp} {v:Value} (h:T.put d v=some T') {t:Tmp} (ht:d≠some t):T'.t.get t=T.t.get t:=by
 rcases z4o h with ⟨rfl,rfl⟩ | ⟨t',rfl,_,rfl⟩
 ·rfl
 ·show (T.t.set t' v).get t=_
  rw [Tr.get_set,if_neg (fun e=>ht (by rw [e]))]
theorem zqy {T T':Fr} {d:Option Tmp} {v:Value} (h:T.put d v=some T'):T'.n=T.n:=by
 rcases z4o h with ⟨rfl,rfl⟩ | ⟨t',rfl,_,rfl⟩ <;> rfl
theorem zfM {E:Env} {callF:z1f} {codeF:z15} {ops:Array Oper} {o:Oper} {T:Fr} {S:St} {r:Fr×St} (h:zq E callF codeF ops o T S=some r) {X:Nat} (hX:storeAt T o.op=some X) :
  ∀ b,b<S.size→b≠X→r.2.heap.get b=S.heap.get b:=by
 obtain ⟨b,_,h1⟩:=z8 h
 cases b with
 | false=>obtain ⟨T',h2,h3⟩:=z8 h1;cases h3;exact fun _ _ _=>rfl
 | true =>
  obtain ⟨q,hq,h2⟩:=z8 h1
  obtain ⟨T',h3,h4⟩:=z8 h2
  cases h4
  exact zd8 hX hq
theorem zhr {E:Env} {callF:z1f} {codeF:z15} {ops:Array Oper} {o:Oper} {T:Fr} {S:St} {r:Fr×St} {l:List Nat} (hl:∀ X∈l,X<S.size) (ht:l=[]∨∃ lt,zH T o.op=some lt∧∀ X∈lt,X ∉ l) (h:zq E callF codeF ops o T S=some r) :
  ∃ Rk,zq E callF codeF ops o T (kill S l)=some (r.1,Rk)∧z4n l r.2 Rk:=by
 rcases ht with rfl | ⟨lt,ht,hd⟩
 ·exact ⟨r.2,h,rfl,rfl,fun b=>by simp⟩
 ·obtain ⟨b,hb,h1⟩:=z8 h
  unfold zq
  rw [hb]
  cases b with
  | false =>
   obtain ⟨T',h2,h3⟩:=z8 h1
   cases h3
   refine ⟨kill S l,?_,z01 S l⟩
   show z3P T o.dst (undef,kill S l)=_
   unfold z3P
   rw [h2];rfl
  | true =>
   obtain ⟨q,hq,h2⟩:=z8 h1
   obtain ⟨T',h3,h4⟩:=z8 h2
   cases h4
   obtain ⟨Sk,h5,h6⟩:=znj hl ht hd hq
   refine ⟨Sk,?_,h6⟩
   show ob (zR E callF codeF T (kill S l) o.op) (z3P T o.dst)=_
   rw [h5]
   show z3P T o.dst (q.1,Sk)=_
   unfold z3P
   rw [h3];rfl
theorem z6Z {X:Nat}:∀ (L:List Nat),zx X L≤L.length∧(∀ k s,k<zx X L→L[k]? = some s→s≤X)∧(∀ s,L[zx X L]? = some s→X<s)
 | []=>⟨ym _,fun k s h=>by simp [zx] at h,fun s h=>by simp [zx] at h⟩
 | b::l=>by
  obtain ⟨h1,h2,h3⟩:=z6Z (X:=X) l
  unfold zx
  cases hb:Nat.ble b X with
  | false =>
   refine ⟨yu _,fun k s h=>absurd h (Nat.not_lt_zero _),fun s h=>?_⟩
   have:s=b:=by simpa [bf] using h.symm
   rw [this]
   rcases Nat.lt_or_ge X b with h4 | h4
   ·exact h4
   ·rw [Nat.ble_eq_true_of_le h4] at hb;cases hb
  | true =>
   show 1+zx X l≤l.length+1∧(∀ k s,k<1+zx X l→(b::l)[k]? = some s→s≤X)∧∀ s,(b::l)[1+zx X l]? = some s→X<s
   refine ⟨by omega,fun k s hk hs=>?_,fun s hs=>h3 s (by rw [Nat.add_comm] at hs;simpa using hs)⟩
   cases k with
   | zero =>
        have:b=s:=by simpa using hs
        rw [←this];exact zF hb
   | succ k=>exact h2 k s (by omega) (by simpa using hs)
section
variable {G:Good} {callF:z1f} {codeF:z15} {ops:Array Oper} {T:Nat→Fr} {S R:Nat→St} {D:Nat→Dr}
def Rng (ops:Array Oper) (T:Nat→Fr) (S R:Nat→St) (k:Nat):Prop :=
 k<ops.size∧¬ (S k).size≤(R k).low∧¬ uni (z4M ops.toList []) k=true∧∃ o,ops[k]? = some o∧zo6 o.op=true∧zH (T k) o.op=none∧storeAt (T k) o.op=none
def Wr (ops:Array Oper) (T:Nat→Fr) (S R:Nat→St) (k b:Nat):Prop :=
 b<(S k).size∧(R k).low≤b∧((∃ o,ops[k]? = some o∧(uni (z4M ops.toList []) k=true∨storeAt (T k) o.op=some b))∨Rng ops T S R k)
def One (ops:Array Oper) (T:Nat→Fr) (S R:Nat→St) (k X:Nat):Prop :=
 k<ops.size∧¬ (S k).size≤(R k).low∧¬ uni (z4M ops.toList []) k=true∧∃ o,ops[k]? = some o∧storeAt (T k) o.op=some X
noncomputable def mkr (S:Nat→St) (k X:Nat):Nat:=zx X ((List.range (k+1)).map fun m=>(S m).size) - 1
structure Facts (ops:Array Oper) (T:Nat→Fr) (S R:Nat→St):Prop where
 size:∀ k,k<ops.size→(S k).size≤(S (k+1)).size
 lfr:∀ k b,k<ops.size→b<(S k).size→¬ Wr ops T S R k b→(S (k+1)).heap.get b=(S k).heap.get b
 dead:∀ k b,k<ops.size→b<(S k).size→live (S (k+1)) b→live (S k) b
 tmp:∀ k o,ops[k]? = some o→∃ v,(T k).put o.dst v=some (T (k+1))
 low:∀ k,k<ops.size→(S (k+1)).low≤(R k).low∧(S (k+1)).low≤(S k).low
 one:∀ i X k o,One ops T S R i X→ops[k]? = some o→k≠i→z1j (z4M ops.toList []) (S 0).size i X (mkr S i X) k (zH (T k) o.op)=true∨k<i∧∃ w,ops[i]? = some w∧z7r w.op o.op=true
 made:∀ i X,One ops T S R i X→X<(S 0).size∨Bef ops (mkr S i X) i
 cls:∀ k b,k<ops.size→Wr ops T S R k b→uni (z4M ops.toList []) k=true∨One ops T S R k b∨Rng ops T S R k
 rng:∀ i k o,Rng ops T S R i→ops[k]? = some o→k≠i→(Bef ops k i∨Bef ops i k)∨(∃ lt,zH (T k) o.op=some lt∧∀ b∈lt,b<(R i).low)∧(k<i→(S (k+1)).size=(S k).size)
theorem z5u {low:Nat} {t:Option (List Nat)} (h:z5v low t=true):∃ lt,t=some lt∧∀ b∈lt,b<low:=by
 cases t with
 | none=>cases h
 | some l=>exact ⟨l,rfl,fun b hb=>z0w (List.all_eq_true.1 h b hb)⟩
theorem zm9 {bs:List Nat} {i low:Nat} {o:Op} {t:Option (List Nat)} {starts:List Nat} {recs:List (Nat×Option (List Nat))} (h:zdR bs i low o t starts recs=true) :
  (zo6 o=true∧t=none)∧∀ q∈recs,z6I bs i q.1=true∨(∃ lt,q.2=some lt∧∀ b∈lt,b<low)∧(starts[q.1]?).getD 0=(starts[q.1+1]?).getD 0:=by
 unfold zdR at h
 simp only [yw] at h
 obtain ⟨⟨h1,h2⟩,h3⟩:=h
 refine ⟨⟨h1,?_⟩,fun q hq=>?_⟩
 ·cases t with
  | none=>rfl
  | some l=>cases h2
 ·have:=List.all_eq_true.1 h3 q hq
  rw [Bool.or_eq_true,yw] at this
  exact this.imp id fun h4=>⟨z5u h4.1,Nat.eq_of_beq_eq_true h4.2⟩
theorem z5l {bs:List Nat} {i size low:Nat} {T:Fr} {o:Op} {D D':Dr} (h:z0s ops bs i T size low o D=some D') :
  ((
   D.wrs.isEmpty||zaA bs D.r i (zH T o) D.wrs)=true∧zkH bs i (zH T o) D.rgs=true)∧D'.r=D.r∧D'.starts=D.starts++[size]∧D'.recs=(i,zH T o)::D.recs ∧
   ((
    (size≤low∨uni bs i=true)∧D'.wrs=D.wrs∧D'.rgs=D.rgs)∨(storeAt T o=none∧zdR bs i low o (zH T o) (D.starts++[size]) D.recs=true)∧D'.wrs=D.wrs∧D'.rgs=(i,low)::D.rgs ∨
    ∃ X,storeAt T o=some X∧(X<D.r∨((bs[i]?).getD 0).testBit (zx X (D.starts++[size]) - 1)=true)∧z1N ops o bs D.r i X (zx X (D.starts++[size]) - 1) D.recs=true ∧
    D'.wrs=(i,X,zx X (D.starts++[size]) - 1)::D.wrs∧D'.rgs=D.rgs):=by
 obtain ⟨h1,h2⟩:=ze h
 rw [yw] at h1
 refine ⟨h1,?_⟩
 cases hb:(Nat.ble size low||uni bs i) with
 | true =>
  rw [hb] at h2
  cases h2
  refine ⟨rfl,rfl,rfl,.inl ⟨?_,rfl,rfl⟩⟩
  simp only [Bool.or_eq_true] at hb
  exact hb.imp zF id
 | false =>
  rw [hb] at h2
  change obE (storeAt T o) _ _=some D' at h2
  cases hX:storeAt T o with
  | none =>
   rw [hX] at h2
   obtain ⟨h4,h5⟩:=ze (show gd _ _=some D' from h2)
   cases h5
   exact ⟨rfl,rfl,rfl,.inr (.inl ⟨⟨rfl,h4⟩,rfl,rfl⟩)⟩
  | some X =>
   rw [hX] at h2
   obtain ⟨h4,h5⟩:=ze (show gd _ _=some D' from h2)
   cases h5
   simp only [yw,Bool.or_eq_true] at h4
   exact ⟨rfl,rfl,rfl,.inr (.inr ⟨X,rfl,h4.1.imp z0w id,h4.2,rfl,rfl⟩)⟩
theorem zdy {j:Inj} {h:Tr Yg} {s l l':Nat} {w:World} (hs:Sim G j ⟨h,s,l⟩ w):Sim G j ⟨h,s,l'⟩ w:=⟨hs.dom,hs.objs,hs.inj,hs.rom⟩
theorem zl8 (hG:Yj G) (hA:z0h G callF) (hC:z0u G codeF) (hc:(ops.toList.all fun o=>o.op.operands.toList.all z0V)=true) (hw:Way G callF codeF ops T S R D 0 ops.size) (hD0:D 0=⟨(S 0).size,[],[],[],[]⟩)
  {j:Inj} {a:Act} {w:World} (hs:Sim G j (S 0) w) (hT:TRel j (T 0) a.tmps):Facts ops T S R:=by
 have text:∀ k,k≤ops.size→∃ (j:Inj) (a:Act) (w:World),Sim G j (S k) w∧TRel j (T k) a.tmps:=by
  intro k
  induction k with
  | zero=>exact fun _=>⟨j,a,w,hs,hT⟩
  | succ k ih =>
   intro hk
   obtain ⟨j1,a1,w1,h1,h2⟩:=ih (by omega)
   obtain ⟨o,ho,h3,h4,_⟩:=hw.step k (yu _) (by omega)
   have hco:=List.all_eq_true.1 hc o (by rw [←Array.getElem?_toList] at ho;exact List.mem_of_getElem? ho)
   obtain ⟨_,v,hv,⟨v',w',j',h5,h6,h7⟩,_⟩:=z3S hG (zdy (G:=G) h1) hA hC (h2.tmps _) hco ho h3 none 0
   refine ⟨j',a1.put o.dst v',w',?_,(h2.mono h7.sub).put hv h5⟩
   rw [h4];exact zdy h6
 have ex:∀ k,k<ops.size→∃ j w j' w',Ext (R k).low j ⟨(S k).heap,(S k).size,(S k).size⟩ w j' (R k) w'∧(R k).low≤(S k).size:=by
  intro k hk
  obtain ⟨j1,a1,w1,h1,h2⟩:=text k (Nat.le_of_lt hk)
  obtain ⟨o,ho,h3,h4,_⟩:=hw.step k (yu _) hk
  have hco:=List.all_eq_true.1 hc o (by rw [←Array.getElem?_toList] at ho;exact List.mem_of_getElem? ho)
  obtain ⟨hl,v,hv,⟨v',w',j',h5,h6,h7⟩,_⟩:=z3S hG (zdy (G:=G) h1) hA hC (h2.tmps _) hco ho h3 none 0
  exact ⟨j1,w1,j',w',h7,hl⟩
 have inv:∀ k,k≤ops.size→(D k).r=(S 0).size∧(D k).starts=(List.range k).map (fun m=>(S m).size)∧(∀ m o,m<k→ops[m]? = some o→(m,zH (T m) o.op)∈(D k).recs) ∧
   (∀ m X,m<k→One ops T S R m X→(m,X,mkr S m X)∈(D k).wrs)∧(∀ m,m<k→Rng ops T S R m→(m,(R m).low)∈(D k).rgs):=by
  intro k
  induction k with
  | zero=>intro _;rw [hD0];exact ⟨rfl,rfl,fun m o h=>by omega,fun m X h=>by omega,fun m h=>by omega⟩
  | succ k ih =>
   intro hk
   obtain ⟨h1,h2,h3,h4,h4r⟩:=ih (by omega)
   obtain ⟨o,ho,h5,h6,h7⟩:=hw.step k (yu _) (by omega)
   obtain ⟨h8,h9,h10,h11,h12⟩:=z5l h7
   refine ⟨h9.trans h1,?_,?_,?_,?_⟩
   ·rw [h10,h2,List.range_succ,List.map_append];rfl
   ·intro m o' hm ho'
    rw [h11]
    by_cases e:m=k
    ·subst e;rw [ho] at ho';cases ho';simp
    ·exact List.mem_cons_of_mem _ (h3 m o' (by omega) ho')
   ·intro m X hm hone
    by_cases e:m=k
    ·subst e
     obtain ⟨_,hn1,hn2,o',ho',hst⟩:=hone
     rw [ho] at ho';cases ho'
     rcases h12 with ⟨h13,_⟩ | ⟨⟨h13,_⟩,_⟩ | ⟨X',h13,_,_,h14,_⟩
     ·rcases h13 with h13 | h13
      ·exact absurd h13 hn1
      ·exact absurd h13 hn2
     ·rw [hst] at h13;cases h13
     ·rw [hst] at h13;cases h13
      rw [h14]
      have:mkr S m X=zx X ((D m).starts++[(S m).size]) - 1:=by
       unfold mkr;rw [h2,List.range_succ,List.map_append];rfl
      rw [this];simp
    ·have:=h4 m X (by omega) hone
     rcases h12 with ⟨_,h14,_⟩ | ⟨_,h14,_⟩ | ⟨X',_,_,_,h14,_⟩
     ·rw [h14];exact this
     ·rw [h14];exact this
     ·rw [h14];exact List.mem_cons_of_mem _ this
   ·intro m hm hrg
    by_cases e:m=k
    ·subst e
     obtain ⟨_,hn1,hn2,o',ho',_,_,hst⟩:=hrg
     rw [ho] at ho';cases ho'
     rcases h12 with ⟨h13,_⟩ | ⟨_,_,h14⟩ | ⟨X',h13,_⟩
     ·rcases h13 with h13 | h13
      ·exact absurd h13 hn1
      ·exact absurd h13 hn2
     ·rw [h14];simp
     ·rw [hst] at h13;cases h13
    ·have:=h4r m (by omega) hrg
     rcases h12 with ⟨_,_,h14⟩ | ⟨_,_,h14⟩ | ⟨X',_,_,_,_,h14⟩
     ·rw [h14];exact this
     ·rw [h14];exact List.mem_cons_of_mem _ this
     ·rw [h14];exact this
 have hsize:∀ k,k<ops.size→(S k).size≤(S (k+1)).size:=by
  intro k hk
  obtain ⟨_,_,_,_,h1,_⟩:=ex k hk
  obtain ⟨_,_,_,h2,_⟩:=hw.step k (yu _) hk
  rw [h2];exact h1.size
 refine ⟨?_,?_,?_,?_,?_,?_,?_,?_,?_⟩
 ·intro k hk
  obtain ⟨_,_,_,_,h1,_⟩:=ex k hk
  obtain ⟨_,_,_,h2,_⟩:=hw.step k (yu _) hk
  rw [h2];exact h1.size
 ·intro k b hk hb hn
  obtain ⟨_,_,_,_,h1,_⟩:=ex k hk
  obtain ⟨o,ho,h3,h2,h4⟩:=hw.step k (yu _) hk
  rw [h2]
  show (R k).heap.get b=_
  by_cases hlo:b<(R k).low
  ·exact h1.lfr b hb hlo
  ·obtain ⟨_,_,_,_,h12⟩:=z5l h4
   rcases h12 with ⟨h13,_⟩ | ⟨⟨h13,h14⟩,_⟩ | ⟨X,h13,_⟩
   ·rcases h13 with h13 | h13
    ·exact absurd (yo hb h13) hlo
    ·exact absurd ⟨hb,by omega,.inl ⟨o,ho,.inl h13⟩⟩ hn
   ·by_cases hu:uni (z4M ops.toList []) k=true
    ·exact absurd ⟨hb,by omega,.inl ⟨o,ho,.inl hu⟩⟩ hn
    ·obtain ⟨h15,h16⟩:=zm9 h14
     exact absurd ⟨hb,by omega,.inr ⟨hk,by omega,hu,o,ho,h15.1,h15.2,h13⟩⟩ hn
   ·refine zfM h3 h13 b hb fun e=>hn ⟨hb,by omega,.inl ⟨o,ho,.inr (by rw [e];exact h13)⟩⟩
 ·intro k b hk hb hv
  obtain ⟨_,_,_,_,h1,_⟩:=ex k hk
  obtain ⟨_,_,_,h2,_⟩:=hw.step k (yu _) hk
  rw [h2] at hv
  exact h1.dead b hb hv
 ·intro k o ho
  have hk:k<ops.size:=(Array.getElem?_eq_some_iff.1 ho).1
  obtain ⟨o',ho',h3,_⟩:=hw.step k (yu _) hk
  rw [ho] at ho';cases ho'
  exact zoS h3
 ·intro k hk
  obtain ⟨_,_,_,h2,_⟩:=hw.step k (yu _) hk
  rw [h2]
  exact ⟨Nat.min_le_right _ _,Nat.min_le_left _ _⟩
 ·intro i X k o hone hk hne
  have hk':k<ops.size:=(Array.getElem?_eq_some_iff.1 hk).1
  have hi':=hone.1
  by_cases hlt:k<i
  ·obtain ⟨o',ho',_,_,h7⟩:=hw.step i (yu _) hi'
   obtain ⟨h1,h2,h3,h4,_⟩:=inv i (Nat.le_of_lt hi')
   obtain ⟨h8,h9,h10,h11,h12⟩:=z5l h7
   obtain ⟨_,hn1,hn2,o2,ho2,hst⟩:=hone
   rw [ho'] at ho2;cases ho2
   rcases h12 with ⟨h13,_⟩ | ⟨⟨h13,_⟩,_⟩ | ⟨X',h13,_,h15,_⟩
   ·rcases h13 with h13 | h13
    ·exact absurd h13 hn1
    ·exact absurd h13 hn2
   ·rw [hst] at h13;cases h13
   ·rw [hst] at h13;cases h13
    have:=List.all_eq_true.1 h15 _ (h3 k o hlt hk)
    rw [h1] at this
    have e:mkr S i X=zx X ((D i).starts++[(S i).size]) - 1:=by
     unfold mkr;rw [h2,List.range_succ,List.map_append];rfl
    rw [Bool.or_eq_true] at this
    rcases this with this | this
    ·rw [e];exact .inl this
    ·refine .inr ⟨hlt,o',ho',?_⟩
     change (Option.rec false (fun o=>z7r o'.op o.op) ops[k]? : Bool)=true at this
     rw [hk] at this;exact this
  ·obtain ⟨o',ho',_,_,h7⟩:=hw.step k (yu _) hk'
   rw [hk] at ho';cases ho'
   obtain ⟨h1,h2,h3,h4,_⟩:=inv k (Nat.le_of_lt hk')
   obtain ⟨⟨h8,_⟩,_⟩:=z5l h7
   have hmem:=h4 i X (by omega) hone
   simp only [Bool.or_eq_true,List.isEmpty_iff] at h8
   rcases h8 with h8 | h8
   ·rw [h8] at hmem;cases hmem
   ·have:=List.all_eq_true.1 h8 _ hmem
    rw [h1] at this
    exact .inl this
 ·intro i X hone
  have hi':=hone.1
  obtain ⟨o',ho',_,_,h7⟩:=hw.step i (yu _) hi'
  obtain ⟨h1,h2,h3,h4,_⟩:=inv i (Nat.le_of_lt hi')
  obtain ⟨h8,h9,h10,h11,h12⟩:=z5l h7
  obtain ⟨_,hn1,hn2,o2,ho2,hst⟩:=hone
  rw [ho'] at ho2;cases ho2
  rcases h12 with ⟨h13,_⟩ | ⟨⟨h13,_⟩,_⟩ | ⟨X',h13,h14,_,_⟩
  ·rcases h13 with h13 | h13
   ·exact absurd h13 hn1
   ·exact absurd h13 hn2
  ·rw [hst] at h13;cases h13
  ·rw [hst] at h13;cases h13
   have e:mkr S i X=zx X ((D i).starts++[(S i).size]) - 1:=by
    unfold mkr;rw [h2,List.range_succ,List.map_append];rfl
   rw [h1] at h14
   rw [e];exact h14
 ·intro k b hk hwr
  obtain ⟨hb,hlo,h0⟩:=hwr
  rcases h0 with ⟨o,ho,h1⟩ | h0
  case inr=>exact .inr (.inr h0)
  rcases h1 with h1 | h1
  ·exact .inl h1
  ·by_cases hu:uni (z4M ops.toList []) k=true
   ·exact .inl hu
   ·exact .inr (.inl ⟨hk,by omega,hu,o,ho,h1⟩)
 ·intro i k o hrg hk hne
  have hrg':=hrg
  obtain ⟨hi,hn1,hn2,oi,hoi,hc1,hc2,hc3⟩:=hrg
  have hks:k<ops.size:=(Array.getElem?_eq_some_iff.1 hk).1
  by_cases hlt:k<i
  ·obtain ⟨o',ho',_,_,h7⟩:=hw.step i (yu _) hi
   rw [hoi] at ho';cases ho'
   obtain ⟨h1,h2,h3,_⟩:=inv i (Nat.le_of_lt hi)
   obtain ⟨_,_,_,_,h12⟩:=z5l h7
   rcases h12 with ⟨h13,_⟩ | ⟨⟨_,h14⟩,_⟩ | ⟨X',h13,_⟩
   ·rcases h13 with h13 | h13
    ·exact absurd h13 hn1
    ·exact absurd h13 hn2
   ·rcases (zm9 h14).2 _ (h3 k o hlt hk) with h | ⟨h,h'⟩
    ·exact .inl (compL_iff.1 h)
    ·refine .inr ⟨h,fun _=>?_⟩
     have e:(D i).starts++[(S i).size]=(List.range (i+1)).map fun m=>(S m).size:=by
      rw [h2,List.range_succ,List.map_append];rfl
     rw [e] at h'
     have g:∀ n,n<i+1→(((List.range (i+1)).map fun m=>(S m).size)[n]?).getD 0=(S n).size:=fun n hn=>by simp [hn]
     change (((List.range (i+1)).map fun m=>(S m).size)[k]?).getD 0=(((List.range (i+1)).map fun m=>(S m).size)[k+1]?).getD 0 at h'
     rw [g k (by omega),g (k+1) (by omega)] at h'
     exact h'.symm
   ·rw [hc3] at h13;cases h13
  ·obtain ⟨o',ho',_,_,h7⟩:=hw.step k (yu _) hks
   rw [hk] at ho';cases ho'
   obtain ⟨_,_,_,_,h4⟩:=inv k (Nat.le_of_lt hks)
   obtain ⟨⟨_,h8⟩,_⟩:=z5l h7
   have:=List.all_eq_true.1 h8 _ (h4 i (by omega) hrg')
   rw [Bool.or_eq_true] at this
   rcases this with h | h
   ·exact .inl (compL_iff.1 h)
   ·exact .inr ⟨z5u h,fun h=>absurd h hlt⟩
end
section
variable {G:Good} {callF:z1f} {codeF:z15} {ops:Array Oper} {T:Nat→Fr} {S R:Nat→St}
theorem Facts.size_mono (F:Facts ops T S R) {k k':Nat} (h:k≤k') (hk:k'≤ops.size):(S k).size≤(S k').size:=by
 induction k' with
 | zero =>
      obtain rfl:k=0:=by omega
      exact ym _
 | succ n ih =>
  by_cases e:k=n+1
  ·rw [e];exact ym _
  ·exact yn (ih (by omega) (by omega)) (F.size n (by omega))
theorem Facts.low_mono (F:Facts ops T S R) {k k':Nat} (h:k≤k') (hk:k'≤ops.size):(S k').low≤(S k).low:=by
 induction k' with
 | zero =>
      obtain rfl:k=0:=by omega
      exact ym _
 | succ n ih =>
  by_cases e:k=n+1
  ·rw [e];exact ym _
  ·exact yn (F.low n (by omega)).2 (ih (by omega) (by omega))
theorem Facts.low_le (F:Facts ops T S R) {k:Nat} (hk:k<ops.size):(S ops.size).low≤(R k).low:=yn (F.low_mono (show k+1≤ops.size from hk) (ym _)) (F.low k hk).1
theorem Facts.dead_mono (F:Facts ops T S R) {k k' b:Nat} (h:k≤k') (hk:k'≤ops.size) (hb:b<(S k).size):live (S k') b→live (S k) b:=by
 induction k' with
 | zero =>
      obtain rfl:k=0:=by omega
      exact id
 | succ n ih =>
  by_cases e:k=n+1
  ·rw [e];exact id
  ·exact fun hv=>ih (by omega) (by omega) (F.dead n b (by omega) (yo hb (F.size_mono (show k≤n by omega) (by omega))) hv)
theorem Facts.keep (F:Facts ops T S R) {k k' b:Nat} (h:k≤k') (hk:k'≤ops.size) (hb:b<(S k).size) (hn:∀ m,k≤m→m<k'→¬ Wr ops T S R m b):(S k').heap.get b=(S k).heap.get b:=by
 induction k' with
 | zero =>
      obtain rfl:k=0:=by omega
      rfl
 | succ n ih =>
  by_cases e:k=n+1
  ·rw [e]
  ·rw [F.lfr n b (by omega) (yo hb (F.size_mono (show k≤n by omega) (by omega))) (hn n (by omega) (by omega))]
   exact ih (by omega) (by omega) fun m h1 h2=>hn m h1 (by omega)
theorem Facts.tkeep (F:Facts ops T S R) {k k' t:Nat} (h:k≤k') (hk:k'≤ops.size) (hn:∀ m o,k≤m→m<k'→ops[m]? = some o→o.dst≠some t):(T k').t.get t=(T k).t.get t:=by
 induction k' with
 | zero =>
      obtain rfl:k=0:=by omega
      rfl
 | succ n ih =>
  by_cases e:k=n+1
  ·rw [e]
  ·have hlt:n<ops.size:=by omega
   obtain ⟨v,hv⟩:=F.tmp n ops[n] (Array.getElem?_eq_getElem hlt)
   rw [z8m hv (hn n _ (by omega) (by omega) (Array.getElem?_eq_getElem hlt))]
   exact ih (by omega) (by omega) fun m o h1 h2=>hn m o h1 (by omega)
theorem Facts.tn (F:Facts ops T S R) {k:Nat} (hk:k≤ops.size):(T k).n=(T 0).n:=by
 induction k with
 | zero=>rfl
 | succ n ih =>
  have hlt:n<ops.size:=by omega
  obtain ⟨v,hv⟩:=F.tmp n ops[n] (Array.getElem?_eq_getElem hlt)
  rw [zqy hv];exact ih (by omega)
theorem Facts.uniq (F:Facts ops T S R) {m m' b:Nat} (hm:m<ops.size) (hm':m'<ops.size) (h1:(S m).size≤b) (h2:b<(S (m+1)).size) (h3:(S m').size≤b) (h4:b<(S (m'+1)).size):m=m':=by
 rcases Nat.lt_trichotomy m m' with h | h | h
 ·have:=F.size_mono (show m+1≤m' from h) (by omega);omega
 ·exact h
 ·have:=F.size_mono (show m'+1≤m from h) (by omega);omega
theorem Facts.mkr_spec (F:Facts ops T S R) {i X:Nat} (hi:i<ops.size) (h1:(S 0).size≤X) (h2:X<(S i).size):mkr S i X<i∧(S (mkr S i X)).size≤X∧X<(S (mkr S i X+1)).size:=by
 obtain ⟨h3,h4,h5⟩:=z6Z (X:=X) ((List.range (i+1)).map fun m=>(S m).size)
 have hget:∀ k,k<i+1→((List.range (i+1)).map fun m=>(S m).size)[k]? = some (S k).size:=fun k hk=>by simp [hk]
 have hc0:zx X ((List.range (i+1)).map fun m=>(S m).size)≠0:=fun e=>by
  rw [e] at h5
  have:=h5 _ (hget 0 (by omega));omega
 have hci:zx X ((List.range (i+1)).map fun m=>(S m).size)≤i:=by
  rcases Nat.lt_or_ge i (zx X ((List.range (i+1)).map fun m=>(S m).size)) with h | h
  ·have:=h4 i _ h (hget i (by omega));omega
  ·exact h
 unfold mkr
 refine ⟨by omega,h4 _ _ (by omega) (hget _ (by omega)),?_⟩
 rw [show zx X ((List.range (i+1)).map fun m=>(S m).size) - 1+1=zx X ((List.range (i+1)).map fun m=>(S m).size) by omega]
 exact h5 _ (hget _ (by omega))
def View (ops:Array Oper) (T:Nat→Fr) (S R:Nat→St) (p:Nat→Prop) (b k:Nat):Prop:=∀ m,m<ops.size→Wr ops T S R m b→(p m ↔ m<k)
def zro (ops:Array Oper) (p:Nat→Prop) (t k:Nat):Prop:=∀ m o,ops[m]? = some o→o.dst=some t→(p m ↔ m<k)
theorem Facts.view_eq (F:Facts ops T S R) {p:Nat→Prop} {b k k':Nat} (hk:k≤ops.size) (hk':k'≤ops.size) (hb:b<(S k).size) (hb':b<(S k').size) (h:View ops T S R p b k) (h':View ops T S R p b k'):(S k).heap.get b=(S k').heap.get b:=by
 rcases Nat.le_total k k' with hle | hle
 ·refine (F.keep hle hk' hb fun m h1 h2 hw=>?_).symm
  have:=(h m (by omega) hw).1 ((h' m (by omega) hw).2 h2);omega
 ·refine F.keep hle hk hb' fun m h1 h2 hw=>?_
  have:=(h' m (by omega) hw).1 ((h m (by omega) hw).2 h2);omega
structure Inv (G:Good) (ops:Array Oper) (T:Nat→Fr) (S R:Nat→St) (j0:Inj) (a0:Act) (w0:World) (p:Nat→Prop) (a:Act) (w:World) (j:Inj):Prop where
 sub:Le j0 j
 dom:∀ b x,j b=some x→x.blk<w.heap.size∧((b<(S 0).size∧j0 b=some x)∨∃ m,m<ops.size∧p m∧(S m).size≤b∧b<(S (m+1)).size)
 all:∀ m,m<ops.size→p m→∀ b,(S m).size≤b→b<(S (m+1)).size→∃ x,j b=some x
 tmps:∀ t k,k≤ops.size→zro ops p t k→∀ v,(T k).t.get t=some v→∃ v',a.tmps[t]? = some v'∧Yf j v v'
 mem:∀ b x k o,j b=some x→k≤ops.size→b<(S k).size→View ops T S R p b k→(S k).heap.get b=some o→∃ o',w.heap[x.blk]? = some o'∧ORel G j x o o'
 inj:∀ b c x y k k',j b=some x→j c=some y→k≤ops.size→b<(S k).size→View ops T S R p b k→live (S k) b→k'≤ops.size→c<(S k').size→View ops T S R p c k'→live (S k') c→x.blk=y.blk→b=c
 defs:a.defers=a0.defers
 tsz:a.tmps.size=a0.tmps.size
 heap:w0.heap.size≤w.heap.size
 fr:∀ c,c<w0.heap.size→(∀ b x,j0 b=some x→(S ops.size).low≤b→live (S 0) b→x.blk≠c)→w.heap[c]? = w0.heap[c]?
 new:∀ b x,j b=some x→j0 b=none→w0.heap.size≤x.blk∨∃ c y,j0 c=some y∧(S ops.size).low≤c∧live (S 0) c∧y.blk=x.blk
 io:SameIo w0 w
theorem ORel.meet {j k:Inj} {x y:JB} {o:Yg} {o' o'':Obj} (h:ORel G j x o o') (h':ORel G k y o o''):ORel G (meet j k) x o o':=by
 cases o with
 | cells c e =>
  obtain ⟨c',e',h1,h2,h3,h4,h5⟩:=h
  obtain ⟨_,_,_,_,_,_,h6⟩:=h'
  exact ⟨c',e',h1,h2,h3,h4,fun i v hi=>let ⟨v',a,b⟩:=h5 i v hi;let ⟨_,_,d⟩:=h6 i v hi;⟨v',a,b.meet d⟩⟩
 | map es =>
  obtain ⟨es',c,h1,h2,h3,hcb⟩:=h
  obtain ⟨_,_,_,_,h4,_⟩:=h'
  exact ⟨es',c,h1,h2,fun i p hi=>let ⟨e,a,b,d⟩:=h3 i p hi;let ⟨_,_,b',d'⟩:=h4 i p hi;⟨e,a,b.meet b',d.meet d'⟩,hcb⟩
 | loop st pd T ps asg body =>
  obtain ⟨L,h1,h2,h3,h4,h5,h6,h7,h8⟩:=h
  obtain ⟨_,_,_,_,_,_,_,h9,_⟩:=h'
  exact ⟨L,h1,h2,h3,h4,h5,h6,⟨h7.1,fun t v hv=>let ⟨v',a,b⟩:=h7.2 t v hv;let ⟨_,_,d⟩:=h9.2 t v hv;⟨v',a,b.meet d⟩⟩,h8⟩
 | nilIter=>exact h
 | strIter s pos=>exact h
 | dead=>trivial
variable {j0:Inj} {a0:Act} {w0:World}
theorem zcd {p:Nat→Prop} (hp:∀ m,m<ops.size→¬ p m) (F:Facts ops T S R) (hs:Sim G j0 (S 0) w0) (hT:TRel j0 (T 0) a0.tmps) {w:World} (hw:w.heap=w0.heap) (hio:SameIo w0 w:=by exact ⟨rfl,rfl,rfl⟩):Inv G ops T S R j0 a0 w0 p a0 w j0 where
 io:=hio
 sub:=Le.refl _
 dom:=fun b x hb=>⟨by rw [hw];exact (hs.dom b x hb).2,.inl ⟨(hs.dom b x hb).1,hb⟩⟩
 all:=fun m hm h=>absurd h (hp m hm)
 tmps:=fun t k hk hv v hg=>by
  rw [F.tkeep (yu k) hk fun m o _ h2 ho e=>hp m (by omega) ((hv m o ho e).2 h2)] at hg
  exact hT.2 t v hg
 mem:=fun b x k o hb hk _ hv ho=>by
  rw [F.keep (yu k) hk (hs.dom b x hb).1 fun m _ h2 e=>hp m (by omega) ((hv m (by omega) e).2 h2)] at ho
  rw [hw];exact hs.objs b x o hb ho
 inj:=fun b c x y k k' hb hc hk _ hv lb hk' _ hv' lc e=>hs.inj b c x y hb hc (F.dead_mono (yu k) hk (hs.dom b x hb).1 lb) (F.dead_mono (yu k') hk' (hs.dom c y hc).1 lc) e
 defs:=rfl
 tsz:=rfl
 heap:=by rw [hw];exact ym _
 fr:=fun c _ _=>by rw [hw]
 new:=fun b x hb hn=>by rw [hb] at hn;cases hn
theorem zdH {p:Nat→Prop} (F:Facts ops T S R) (hs0:Sim G j0 (S 0) w0) {a:Act} {w:World} {j jm:Inj} (hI:Inv G ops T S R j0 a0 w0 p a w j) (h0:Le j0 jm) (hm:Le jm j) {X:St} (hX:∀ d,live X d→∃ i,i≤ops.size∧live (S i) d):Rom G jm X w:=by
 intro b c hb
 obtain ⟨x,hx,hrb,h6⟩:=hs0.rom b c hb
 refine ⟨x,h0 b x hx,fun hne=>?_,fun d y hd hl e=>?_⟩
 obtain ⟨c',e',fr,h1,h2,h3,h4,h5⟩:=hrb hne
 refine ⟨c',e',fr,?_,h2,h3,h4,fun i v hi=>?_⟩
 ·rw [hI.fr x.blk (hs0.dom b x hx).2 fun d y hd _ hl=>h6 d y hd hl];exact h1
 ·obtain ⟨v',k1,k2⟩:=h5 i v hi
  exact ⟨v',k1,k2.mono h0⟩
 ·have hjd:=hm d y hd
  cases hj0:j0 d with
  | some z =>
   have:=hI.sub d z hj0
   rw [hjd] at this;cases this
   obtain ⟨i,hi,hl'⟩:=hX d hl
   exact h6 d y hj0 (F.dead_mono (yu i) hi (hs0.dom d y hj0).1 hl') e
  | none =>
   rcases hI.new d y hjd hj0 with h7 | ⟨k,z,h8,_,h9,h10⟩
   ·have:=(hs0.dom b x hx).2;omega
   ·exact h6 k z h8 h9 (by rw [h10,e])
theorem conf (F:Facts ops T S R) {i m b:Nat} {oi:Oper} (hoi:ops[i]? = some oi) (hm:m<ops.size) (hne:i≠m) (hwr:Wr ops T S R m b) {a:Act} {w:World} {j:Inj} (hI:Inv G ops T S R j0 a0 w0 (fun m=>Bef ops m i) a w j) {x:JB} (hx:j b=some x) :
  (Bef ops m i∨Bef ops i m)∨(∃ lt,zH (T i) oi.op=some lt∧b ∉ lt)∨(One ops T S R m b∧i<m∧∃ w,ops[m]? = some w∧z7r w.op oi.op=true):=by
 have hi:i<ops.size:=(Array.getElem?_eq_some_iff.1 hoi).1
 rcases F.cls m b hm hwr with hu | hone | hr
 ·exact .inl ((z2F hu i hi hne).symm)
 case inr.inr =>
  rcases F.rng m i oi hr hoi hne with h1 | ⟨⟨lt,h1,h2⟩,_⟩
  ·exact .inl h1.symm
  ·refine .inr (.inl ⟨lt,h1,fun hb=>?_⟩)
   have:=h2 b hb
   have:=hwr.2.1
   omega
 ·have h1:=F.one m b i oi hone hoi hne
  rcases h1 with h1 | h1
  case inr=>exact .inr (.inr ⟨hone,h1⟩)
  unfold z1j at h1
  simp only [Bool.or_eq_true,yw,Bool.not_eq_true'] at h1
  rcases h1 with h1 | h1 | h1
  ·exact .inl ((compL_iff.1 h1).symm)
  ·exfalso
   obtain ⟨h2,h3⟩:=h1
   have h2:=zF h2
   rcases (hI.dom b x hx).2 with ⟨h4,_⟩ | ⟨m',h4,h5,h6,h7⟩
   ·omega
   ·obtain ⟨h8,h9,h10⟩:=F.mkr_spec hm h2 hwr.1
    have:=F.uniq (by omega) h4 h9 h10 h6 h7
    rw [this] at h3
    unfold Bef at h5
    rw [h5] at h3;cases h3
  ·refine .inr (.inl ?_)
   cases ht:zH (T i) oi.op with
   | none=>rw [ht] at h1;cases h1
   | some lt =>
    rw [ht] at h1
    refine ⟨lt,rfl,fun hb=>?_⟩
    have:=List.all_eq_true.1 h1 b hb
    simp at this
end
section
def zql (E:Env) (kt:LTy) (z:Value) (es es':List (Value×Value)):Prop:=∃ l,es'=es++l∧∀ q∈l,z2K E kt q.1=true∧q.2=z
theorem zc9 {d:TypeDesc} {x y:Value} (hx:zy d x=true) (hy:zy d y=true):∃ b,z2P x y=some b:=by
 cases d <;> cases x <;> simp only [zy] at hx <;> first | (cases hx;done) | skip
 all_goals cases y <;> simp only [zy] at hy <;> first | (cases hy;done) | skip
 ·exact ⟨_,rfl⟩
 ·rename_i k l a m b
  have h1:=of_decide_eq_true hx
  have h2:=of_decide_eq_true hy
  subst h1;subst h2
  exact ⟨_,by show gd (decide (k=k)) _=_;rw [decide_eq_true rfl];rfl⟩
 ·exact ⟨_,rfl⟩
theorem z9E {E:Env}:∀ {fs:List Field} {i:Nat} {a b:List Value},z6C E fs i a=true→z6C E fs i b=true→∃ q,z0r E fs i a b=some q
 | [],_,[],[],_,_=>⟨_,rfl⟩
 | [],_,[],_::_,_,h=>by cases h
 | [],_,_::_,_,h,_=>by cases h
 | _::_,_,[],_,h,_=>by cases h
 | _::_,_,_::_,[],_,h=>by cases h
 | f::fs,i,x::a,y::b,h,h'=>by
  obtain ⟨ft,h1,h2,h3,h4⟩:=z2q h
  obtain ⟨ft',h1',_,h3',h4'⟩:=z2q h'
  rw [h1] at h1';cases h1'
  obtain ⟨p,hp⟩:=zc9 h3 h3'
  obtain ⟨q,hq⟩:=z9E h4 h4'
  refine ⟨p&&q,?_⟩
  show (ob (E.ti.get f.type) fun ft=>gd (Nat.beq f.offset i&&zy ft.desc x) (ob (z2P x y) fun p=>ob (z0r E fs (Nat.succ i) a b) fun q=>some (p&&q)))=_
  rw [h1]
  show gd (Nat.beq f.offset i&&zy ft.desc x) _=_
  have h4:z0r E fs (Nat.succ i) a b=some q:=hq
  rw [h3,hp,h4,h2,Nat.beq_refl];rfl
theorem zcs {k z:Value} {l:List (Value×Value)} (hl:∀ q∈l,(∃ b,z2P k q.1=some b)∧q.2=z):∀ (es:List (Value×Value)) (i:Nat) (r:Option (Nat×Value)),z0T k es i=some r →
  ∃ r',z0T k (es++l) i=some r'∧(r'.map (·.2)).getD z=(r.map (·.2)).getD z
 | [],i,r,h=>by
  cases h
  show ∃ r',z0T k l i=some r'∧(r'.map (·.2)).getD z=z
  induction l generalizing i with
  | nil=>exact ⟨none,rfl,rfl⟩
  | cons q l ih =>
   obtain ⟨⟨b,hb⟩,hz⟩:=hl q (by simp)
   unfold z0T
   rw [hb]
   cases b with
   | true=>exact ⟨_,rfl,hz⟩
   | false=>exact ih (fun q hq=>hl q (by simp [hq])) (i+1)
 | p::es,i,r,h=>by
  obtain ⟨b,hb,h1⟩:=z8 h
  show ∃ r',ob (z2P k p.1) (fun b=>bf b (some (some (i,p.2))) (z0T k (es++l) (i+1)))=some r'∧_
  rw [hb]
  cases b with
  | true=>cases h1;exact ⟨_,rfl,rfl⟩
  | false=>exact zcs hl es (i+1) r h1
theorem zct {E:Env} {t:TypeId} {k z:Value} {l:List (Value×Value)} (hl:∀ q∈l,(∃ b,z2e E t k q.1=some b)∧q.2=z):∀ (es:List (Value×Value)) (i:Nat) (r:Option (Nat×Value)),z5k E t k es i=some r →
  ∃ r',z5k E t k (es++l) i=some r'∧(r'.map (·.2)).getD z=(r.map (·.2)).getD z
 | [],i,r,h=>by
  cases h
  show ∃ r',z5k E t k l i=some r'∧(r'.map (·.2)).getD z=z
  induction l generalizing i with
  | nil=>exact ⟨none,rfl,rfl⟩
  | cons q l ih =>
   obtain ⟨⟨b,hb⟩,hz⟩:=hl q (by simp)
   unfold z5k
   rw [hb]
   cases b with
   | true=>exact ⟨_,rfl,hz⟩
   | false=>exact ih (fun q hq=>hl q (by simp [hq])) (i+1)
 | p::es,i,r,h=>by
  obtain ⟨b,hb,h1⟩:=z8 h
  show ∃ r',ob (z2e E t k p.1) (fun b=>bf b (some (some (i,p.2))) (z5k E t k (es++l) (i+1)))=some r'∧_
  rw [hb]
  cases b with
  | true=>cases h1;exact ⟨_,rfl,rfl⟩
  | false=>exact zct hl es (i+1) r h1
theorem ziZ {E:Env} {t:TypeId} {kt:LTy} {k z:Value} {es es':List (Value×Value)} {r:Option (Nat×Value)} (ht:E.ti.get t=some kt) (hk:z2K E kt k=true) (he:zql E kt z es es') (h:z7v E t k es=some r) :
  ∃ r',z7v E t k es'=some r'∧(r'.map (·.2)).getD z=(r.map (·.2)).getD z:=by
 obtain ⟨l,rfl,hl⟩:=he
 unfold z7v at h ⊢
 unfold z2K at hk
 cases ha:z9M k with
 | false =>
  rw [ha] at hk h
  have hk:zy kt.desc k=true:=hk
  refine zcs (fun q hq=>?_) es 0 r h
  obtain ⟨h1,h2⟩:=hl q hq
  refine ⟨?_,h2⟩
  unfold z2K at h1
  cases hb:z9M q.1 with
  | false=>rw [hb] at h1;exact zc9 hk h1
  | true =>
   rw [hb] at h1
   obtain ⟨fs,cs,hd,_⟩:=z2r (show z3A E kt q.1=true from h1)
   rw [hd] at hk;cases hk
 | true =>
  rw [ha] at hk h
  obtain ⟨fs,cs,hd,hkk,hp,hf⟩:=z2r (show z3A E kt k=true from hk)
  refine zct (fun q hq=>?_) es 0 r h
  obtain ⟨h1,h2⟩:=hl q hq
  refine ⟨?_,h2⟩
  unfold z2K at h1
  cases hb:z9M q.1 with
  | false =>
   rw [hb] at h1
   have h1:zy kt.desc q.1=true:=h1
   rw [hd] at h1
   cases hq1:q.1 <;> (rw [hq1] at h1;cases h1)
  | true =>
   rw [hb] at h1
   obtain ⟨fs',cs',hd',hkk',hp',hf'⟩:=z2r (show z3A E kt q.1=true from h1)
   rw [hd] at hd';cases hd'
   obtain ⟨x,hx⟩:=z9E hf hf'
   refine ⟨x,?_⟩
   unfold z2e
   rw [ht,hkk,hkk']
   show z11 E kt (.agg cs) (.agg cs')=_
   unfold z11
   rw [hd]
   show gd kt.plain _=_
   rw [hp,hx];rfl
end
section
variable {G:Good} {callF:z1f} {codeF:z15} {ops:Array Oper} {T:Nat→Fr} {S R:Nat→St} {D:Nat→Dr} {j0:Inj} {a0:Act} {w0:World}
theorem z1a {j k:Inj} {b:Nat} {x:JB} (h:meet j k b=some x):j b=some x∧∃ y,k b=some y:=by
 unfold meet at h
 split at h
 ·rename_i hk;exact ⟨h,Option.isSome_iff_exists.1 hk⟩
 ·cases h
theorem ziQ (F:Facts ops T S R) {i m b:Nat} (hi:i<ops.size) (hm:m<ops.size) (h1:(S i).size≤b) (h2:b<(S (i+1)).size) (hne:i≠m) (hdr:Drawn ops) (him:i<m) (hwr:Wr ops T S R m b):Bef ops i m:=by
 rcases F.cls m b hm hwr with hu | hone | hr
 ·rcases z2F hu i hi hne with h | h
  ·exact h
  ·have:=z1D hdr.edge h;omega
 case inr.inr =>
  rcases F.rng m i ops[i] hr (Array.getElem?_eq_getElem hi) hne with h | ⟨_,h⟩
  ·rcases h with h | h
   ·exact h
   ·have:=z1D hdr.edge h;omega
  ·have:=h him;omega
 ·have h0:=F.size_mono (yu i) (Nat.le_of_lt hi)
  rcases F.made m b hone with h | h
  ·omega
  ·obtain ⟨h3,h4,h5⟩:=F.mkr_spec hm (by omega) hwr.1
   have:=F.uniq (by omega) hi h4 h5 h1 h2
   rw [this] at h;exact h
open Classical in
theorem ziJ (hG:Yj G) (hA:z0h G callF) (hC:z0u G codeF) (hc:(ops.toList.all fun o=>o.op.operands.toList.all z0V)=true) (hw:Way G callF codeF ops T S R D 0 ops.size) (F:Facts ops T S R) (hdr:Drawn ops)
  (hs0:Sim G j0 (S 0) w0) (hT0:(T 0).n≤a0.tmps.size) {p:Nat→Prop} {a:Act} {w:World} {j:Inj} {i:Nat} {oi:Oper} (hoi:ops[i]? = some oi) (hsf:∀ w,z7r w oi.op=false) (hpi:¬ p i) (hpB:∀ m,Bef ops m i→p m) (hcl:Cl ops p)
  (hI:Inv G ops T S R j0 a0 w0 p a w j) {ac:Act} {wc:World} {jc:Inj} (hK:Inv G ops T S R j0 a0 w0 (fun m=>Bef ops m i) ac wc jc) (rd':Option Nat) (n:Nat) :
  (∃ v' w' j',Inv G ops T S R j0 a0 w0 (fun m=>p m∨m=i) (a.put oi.dst v') w' j') ∧
  ∀ (K:Act→World→Prop) (Q:Exit→Act→World→Prop),(∀ v' w' j',Inv G ops T S R j0 a0 w0 (fun m=>p m∨m=i) (a.put oi.dst v') w' j'→K (a.put oi.dst v') w')→wpOpIn (z0b rd') n G.P ops Q i K a w:=by
 have hi:i<ops.size:=(Array.getElem?_eq_some_iff.1 hoi).1
 obtain ⟨o,ho,hst,hS1,_⟩:=hw.step i (yu _) hi
 rw [hoi] at ho;cases ho
 have hco:=List.all_eq_true.1 hc oi (by rw [←Array.getElem?_toList] at hoi;exact List.mem_of_getElem? hoi)
 have hmono:=F.size i hi
 have h0i:=F.size_mono (yu i) (Nat.le_of_lt hi)
 -- what is ordered against i
 have cmp:∀ m,(Bef ops m i∨Bef ops i m)→(p m ↔ m<i)∧(Bef ops m i ↔ m<i):=by
  intro m h
  rcases h with h | h
  ·have:=z1D hdr.edge h
   exact ⟨⟨fun _=>this,fun _=>hpB m h⟩,⟨fun _=>this,fun _=>h⟩⟩
  ·have h1:=z1D hdr.edge h
   exact ⟨⟨fun hp=>absurd (z0C h hcl hp) hpi,fun h2=>by omega⟩,⟨fun h2=>by have:=z1D hdr.edge h2;omega,fun h2=>by omega⟩⟩
 have self:∀ m,m=i→(p m ↔ m<i)∧(Bef ops m i ↔ m<i):=by
  rintro m rfl
  exact ⟨⟨fun h=>absurd h hpi,fun h=>by omega⟩,⟨fun h=>z1D hdr.edge h,fun h=>by omega⟩⟩
 have hconf:∀ m b,m<ops.size→i≠m→Wr ops T S R m b→(∃ y,jc b=some y)→(Bef ops m i∨Bef ops i m)∨(∃ lt,zH (T i) oi.op=some lt∧b ∉ lt):=by
  rintro m b hm hne hwr ⟨y,hy⟩
  rcases conf F hoi hm hne hwr hK hy with h | h | ⟨_,_,w,_,h⟩
  ·exact .inl h
  ·exact .inr h
  ·rw [hsf] at h;cases h
 -- the blocks to give up
 obtain ⟨NK,hNK⟩:∃ NK:Nat→Prop,∀ X,NK X ↔ X<(S i).size∧(∃ y,jc X=some y)∧∃ m,m<ops.size∧i≠m∧Wr ops T S R m X∧¬ (Bef ops m i∨Bef ops i m):=⟨_,fun _=>Iff.rfl⟩
 obtain ⟨l,hl⟩:∃ l:List Nat,∀ X,X∈l ↔ NK X:=by
  refine ⟨(List.range (S i).size).filter (fun X=>decide (NK X)),fun X=>?_⟩
  rw [List.mem_filter,decide_eq_true_eq]
  exact ⟨fun h=>h.2,fun h=>⟨by simpa using ((hNK X).1 h).1,h⟩⟩
 have hllt:∀ X∈l,X<(S i).size:=fun X hX=>((hNK X).1 ((hl X).1 hX)).1
 have hlt:∀ X∈l,∃ lt,zH (T i) oi.op=some lt∧X ∉ lt:=by
  intro X hX
  obtain ⟨_,hy,m,hm,hne,hwr,hnc⟩:=(hNK X).1 ((hl X).1 hX)
  rcases hconf m X hm hne hwr hy with h1 | h1
  ·exact absurd h1 hnc
  ·exact h1
 have htouch:l=[]∨∃ lt,zH (T i) oi.op=some lt∧∀ X∈lt,X ∉ l:=by
  by_cases he:l=[]
  ·exact .inl he
  ·obtain ⟨X,hX⟩:=List.exists_mem_of_ne_nil l he
   obtain ⟨lt,h1,_⟩:=hlt X hX
   refine .inr ⟨lt,h1,fun Y hY hYl=>?_⟩
   obtain ⟨lt',h2,h3⟩:=hlt Y hYl
   rw [h1] at h2;cases h2
   exact h3 hY
 obtain ⟨Rk,hstk,hkd⟩:=zhr (S:=⟨(S i).heap,(S i).size,(S i).size⟩) hllt htouch hst
 have hkg:∀ b,(kill ⟨(S i).heap,(S i).size,(S i).size⟩ l).heap.get b=if b∈l then some .dead else (S i).heap.get b:=fun b=>z2M _ _ _
 -- the views of what i may reach
 have hV:∀ b,(∃ y,jc b=some y)→b ∉ l→b<(S i).size→View ops T S R p b i∧View ops T S R (fun m=>Bef ops m i) b i:=by
  intro b hy hbl hb
  have key:∀ m,m<ops.size→Wr ops T S R m b→(p m ↔ m<i)∧(Bef ops m i ↔ m<i):=by
   intro m hm hwr
   by_cases hmi:m=i
   ·exact self m hmi
   ·by_cases hcm:Bef ops m i∨Bef ops i m
    ·exact cmp m hcm
    ·exact absurd ((hl b).2 ((hNK b).2 ⟨hb,hy,m,hm,fun e=>hmi e.symm,hwr,hcm⟩)) hbl
  exact ⟨fun m hm hwr=>(key m hm hwr).1,fun m hm hwr=>(key m hm hwr).2⟩
 have hcdom:∀ b y,jc b=some y→b<(S i).size:=by
  intro b y hb
  rcases (hK.dom b y hb).2 with ⟨h1,_⟩ | ⟨m,hm,h1,h2,h3⟩
  ·omega
  ·have:=z1D hdr.edge h1
   have:=F.size_mono (show m+1≤i from this) (Nat.le_of_lt hi)
   omega
 have hlv:∀ b,live (kill ⟨(S i).heap,(S i).size,(S i).size⟩ l) b→b ∉ l∧live (S i) b:=by
  rintro b ⟨o,ho,hd⟩
  rw [hkg] at ho
  split at ho
  ·cases ho;exact absurd rfl hd
  ·rename_i h;exact ⟨h,o,ho,hd⟩
 have hSim:Sim G (meet j jc) (kill ⟨(S i).heap,(S i).size,(S i).size⟩ l) w:=by
  refine ⟨fun b x hb=>?_,fun b x o hb ho=>?_,fun b c x y hb hcb lb lc e=>?_,zdH F hs0 hI (fun b x hb=>z6A (hI.sub b x hb) (hK.sub b x hb)) (zns j jc) (fun d hd=>⟨i,Nat.le_of_lt hi,(hlv d hd).2⟩)⟩
  ·obtain ⟨h1,y,h2⟩:=z1a hb
   exact ⟨hcdom b y h2,(hI.dom b x h1).1⟩
  ·obtain ⟨h1,y,h2⟩:=z1a hb
   rw [hkg] at ho
   split at ho
   ·cases ho
    have:=(hI.dom b x h1).1
    exact ⟨w.heap[x.blk],by rw [Array.getElem?_eq_getElem],trivial⟩
   ·rename_i hbl
    have hb':=hcdom b y h2
    obtain ⟨v1,v2⟩:=hV b ⟨y,h2⟩ hbl hb'
    obtain ⟨o',h3,h4⟩:=hI.mem b x i o h1 (Nat.le_of_lt hi) hb' v1 ho
    obtain ⟨o'',_,h5⟩:=hK.mem b y i o h2 (Nat.le_of_lt hi) hb' v2 ho
    exact ⟨o',h3,h4.meet h5⟩
  ·obtain ⟨h1,y1,h2⟩:=z1a hb
   obtain ⟨h3,y2,h4⟩:=z1a hcb
   obtain ⟨lb1,lb2⟩:=hlv b lb
   obtain ⟨lc1,lc2⟩:=hlv c lc
   exact hI.inj b c x y i i h1 h3 (Nat.le_of_lt hi) (hcdom b y1 h2) (hV b ⟨y1,h2⟩ lb1 (hcdom b y1 h2)).1 lb2 (Nat.le_of_lt hi) (hcdom c y2 h4) (hV c ⟨y2,h4⟩ lc1 (hcdom c y2 h4)).1 lc2 e
 have hRel:RelTmps (meet j jc) (T i) a.tmps (readsOf ops oi):=by
  intro t ht v hv
  have key:∀ m o,ops[m]? = some o→o.dst=some t→(p m ↔ m<i)∧(Bef ops m i ↔ m<i):=by
   intro m o ho hd
   rcases Nat.lt_trichotomy m i with h | h | h
   ·rcases hdr.apart m i o oi ho hoi h with h1 | ⟨h1,_⟩
    ·exact cmp m (.inl h1)
    ·exact absurd ht (h1 t hd).1
   ·exact self m h
   ·rcases hdr.apart i m oi o hoi ho h with h1 | ⟨_,h1⟩
    ·exact cmp m (.inr h1)
    ·exact absurd ht (h1 t hd)
  obtain ⟨v',h1,h2⟩:=hI.tmps t i (Nat.le_of_lt hi) (fun m o ho hd=>(key m o ho hd).1) v hv
  obtain ⟨v'',_,h3⟩:=hK.tmps t i (Nat.le_of_lt hi) (fun m o ho hd=>(key m o ho hd).2) v hv
  exact ⟨v',h1,h2.meet h3⟩
 obtain ⟨hlow,v,hv,hex,hW⟩:=z3S hG hSim hA hC hRel hco hoi hstk rd' n
 have hRs:Rk.size=(S (i+1)).size:=by rw [hkd.1,hS1]
 have hRl:Rk.low=(R i).low:=hkd.2.1
 have hRg:∀ b,Rk.heap.get b=if b∈l then some .dead else (S (i+1)).heap.get b:=fun b=>by rw [hkd.2.2 b,hS1]
 -- behind the step
 have core:∀ v' w' ji',Yf ji' v v'→Sim G ji' Rk w'→Ext Rk.low (meet j jc) (kill ⟨(S i).heap,(S i).size,(S i).size⟩ l) w ji' Rk w'→∃ j',Inv G ops T S R j0 a0 w0 (fun m=>p m∨m=i) (a.put oi.dst v') w' j':=by
  intro v' w' ji' hv' hs' he
  have n1:∀ b,(S i).size≤b→b<(S (i+1)).size→j b=none:=by
   intro b h1 h2
   cases hb:j b with
   | none=>rfl
   | some x =>
    rcases (hI.dom b x hb).2 with ⟨h3,_⟩ | ⟨m,hm,h3,h4,h5⟩
    ·omega
    ·have:=F.uniq hm hi h4 h5 h1 h2
     rw [this] at h3;exact absurd h3 hpi
  have n2:∀ b x,ji' b=some x→((S i).size≤b∧b<(S (i+1)).size)∨meet j jc b=some x:=by
   intro b x hb
   have hd:=(hs'.dom b x hb).1
   rw [hRs] at hd
   by_cases h1:(S i).size≤b
   ·exact .inl ⟨h1,hd⟩
   ·refine .inr ?_
    cases hm:meet j jc b with
    | none=>have:=(he.new b x hb hm).1;exact absurd this h1
    | some y=>have:=he.sub b y hm;rw [hb] at this;cases this;rfl
  obtain ⟨j',hj'⟩:∃ j':Inj,∀ b,j' b=if (S i).size≤b∧b<(S (i+1)).size then ji' b else j b:=⟨_,fun _=>rfl⟩
  have hle:Le j j':=by
   intro b x hb
   rw [hj']
   split
   ·rename_i h;rw [n1 b h.1 h.2] at hb;cases hb
   ·exact hb
  have hle':Le ji' j':=by
   intro b x hb
   rw [hj']
   split
   ·exact hb
   ·rename_i h
    rcases n2 b x hb with h1 | h1
    ·exact absurd h1 h
    ·exact (z1a h1).1
  -- an elder block: within reach,or not
  have old:∀ b x k,j b=some x→¬ ((S i).size≤b∧b<(S (i+1)).size)→k≤ops.size→b<(S k).size→View ops T S R (fun m=>p m∨m=i) b k →
    (meet j jc b=some x∧b ∉ l∧(S k).heap.get b=(S (i+1)).heap.get b)∨(¬ (b ∉ l∧∃ y,meet j jc b=some y)∧View ops T S R p b k):=by
   intro b x k hb hnr hk hbk hvw
   by_cases hA:b ∉ l∧∃ y,jc b=some y
   ·obtain ⟨hbl,y,hy⟩:=hA
    have hbi:=hcdom b y hy
    refine .inl ⟨z6A hb hy,hbl,F.view_eq hk hi hbk (by omega) hvw fun m hm hwr=>?_⟩
    by_cases hmi:m=i
    ·subst hmi;exact ⟨fun _=>by omega,fun _=>.inr rfl⟩
    ·have:=(hV b ⟨y,hy⟩ hbl hbi).1 m hm hwr
     constructor
     ·rintro (h | h)
      ·have:=this.1 h;omega
      ·exact absurd h hmi
     ·intro h;exact .inl (this.2 (by omega))
   ·have hnw:¬ Wr ops T S R i b:=by
     intro hwr
     by_cases hbl:b∈l
     ·obtain ⟨_,hy,m,hm,hne,hwm,hnc⟩:=(hNK b).1 ((hl b).1 hbl)
      rcases F.cls i b hi hwr with hu | ⟨_,_,_,o,ho,hst⟩ | ⟨_,_,_,o,ho,_,htn,_⟩
      ·exact hnc (z2F hu m hm fun e=>hne e.symm)
      ·rw [hoi] at ho;cases ho
       obtain ⟨lt,h1,h2⟩:=hlt b hbl
       exact h2 (z4Y hst h1)
      ·rw [hoi] at ho;cases ho
       obtain ⟨lt,h1,h2⟩:=hlt b hbl
       rw [htn] at h1;cases h1
     ·have hnone:∀ y,jc b≠some y:=fun y hy=>hA ⟨hbl,y,hy⟩
      rcases F.cls i b hi hwr with hu | ⟨_,_,_,o,ho,hst⟩ | hrg
      case inr.inr =>
       rcases (hI.dom b x hb).2 with ⟨_,h1⟩ | ⟨m,hm,h1,h2,h3⟩
       ·exact hnone x (hK.sub b x h1)
       ·have hmi:m≠i:=fun e=>hpi (by rw [←e];exact h1)
        rcases F.rng i m ops[m] hrg (Array.getElem?_eq_getElem hm) hmi with (h4 | h4) | ⟨_,h4⟩
        ·obtain ⟨y,hy⟩:=hK.all m hm h4 b h2 h3
         exact hnone y hy
        ·exact hpi (z0C h4 hcl h1)
        ·have hmlt:m<i:=by
          rcases Nat.lt_or_ge m i with h | h
          ·exact h
          ·have:=F.size_mono h (Nat.le_of_lt hm)
           have:=hwr.1
           omega
         have:=h4 hmlt
         omega
      ·rcases (hI.dom b x hb).2 with ⟨_,h1⟩ | ⟨m,hm,h1,h2,h3⟩
       ·exact hnone x (hK.sub b x h1)
       ·have hmi:m≠i:=fun e=>hpi (by rw [←e];exact h1)
        rcases z2F hu m hm hmi with h4 | h4
        ·obtain ⟨y,hy⟩:=hK.all m hm h4 b h2 h3
         exact hnone y hy
        ·exact hpi (z0C h4 hcl h1)
      ·rw [hoi] at ho;cases ho
       obtain ⟨y,hy⟩:=zhp hst (hRel.ops hco)
       obtain ⟨_,z,hz⟩:=z1a hy
       exact hnone z hz
    refine .inr ⟨fun ⟨h1,y,h2⟩=>hA ⟨h1,(z1a h2).2⟩,fun m hm hwr=>?_⟩
    have hmi:m≠i:=fun e=>hnw (by rw [←e];exact hwr)
    have:=hvw m hm hwr
    constructor
    ·intro h;exact this.1 (.inl h)
    ·intro h;rcases this.2 h with h | h
     ·exact h
     ·exact absurd h hmi
  have young:∀ b k,(S i).size≤b→b<(S (i+1)).size→k≤ops.size→b<(S k).size→View ops T S R (fun m=>p m∨m=i) b k→(S k).heap.get b=(S (i+1)).heap.get b:=by
   intro b k h1 h2 hk hbk hvw
   have hik:i+1≤k:=by
    rcases Nat.lt_or_ge i k with h | h
    ·exact h
    ·have:=F.size_mono h (Nat.le_of_lt hi);omega
   refine F.keep hik hk h2 fun m hm1 hm2 hwr=>?_
   have hm:m<ops.size:=by omega
   have hbf:=ziQ F hi hm h1 h2 (by omega) hdr (by omega) hwr
   rcases (hvw m hm hwr).2 hm2 with h | h
   ·exact hpi (z0C hbf hcl h)
   ·omega
  have hbl':∀ b,(S i).size≤b→b ∉ l:=fun b h1 h2=>by have:=hllt b h2;omega
  have unreach:∀ b x k,j b=some x→k≤ops.size→b<(S k).size→View ops T S R p b k→live (S k) b→¬ (b ∉ l∧∃ y,meet j jc b=some y) →
    ∀ d z,meet j jc d=some z→live (kill ⟨(S i).heap,(S i).size,(S i).size⟩ l) d→z.blk≠x.blk:=by
   intro b x k hb hk hbk hvw hlb hno d z hd hld e
   obtain ⟨h1,y,h2⟩:=z1a hd
   obtain ⟨h3,h4⟩:=hlv d hld
   have:=hI.inj d b z x i k h1 hb (Nat.le_of_lt hi) (hcdom d y h2) (hV d ⟨y,h2⟩ h3 (hcdom d y h2)).1 h4 hk hbk hvw hlb e
   subst this
   exact hno ⟨h3,z,hd⟩
  refine ⟨j',⟨hI.sub.trans hle,?_,?_,?_,?_,?_,by rw [put_defers];exact hI.defs,?_,yn hI.heap he.heap,?_,?_,hI.io.trans he.io⟩⟩
  ·intro b x hb
   rw [hj'] at hb
   split at hb
   ·rename_i h;exact ⟨(hs'.dom b x hb).2,.inr ⟨i,hi,.inr rfl,h⟩⟩
   ·obtain ⟨h1,h2⟩:=hI.dom b x hb
    refine ⟨yo h1 he.heap,h2.imp id fun ⟨m,hm,h3,h4⟩=>⟨m,hm,.inl h3,h4⟩⟩
  ·intro m hm hpm b h1 h2
   rcases hpm with h | h
   ·obtain ⟨x,hx⟩:=hI.all m hm h b h1 h2
    exact ⟨x,hle b x hx⟩
   ·subst h
    obtain ⟨x,hx⟩:=he.all b h1 (by rw [hRs];exact h2)
    exact ⟨x,hle' b x hx⟩
  ·intro t k hk hvw u hu
   by_cases hd:oi.dst=some t
   ·rcases z4o hv with ⟨h1,_⟩ | ⟨t',h1,h2,h3⟩
    ·rw [hd] at h1;cases h1
    ·rw [hd] at h1;cases h1
     have hik:i<k:=(hvw i oi hoi hd).1 (.inr rfl)
     have hkeep:=F.tkeep (t:=t) (show i+1≤k from hik) hk fun m o hm1 hm2 ho hdo=>by
      rcases (hvw m o ho hdo).2 hm2 with h | h
      ·rcases hdr.apart i m oi o hoi ho (by omega) with h4 | ⟨h4,_⟩
       ·exact hpi (z0C h4 hcl h)
       ·exact (h4 t hd).2 hdo
      ·omega
     rw [hkeep] at hu
     have hTi:(T (i+1))=⟨(T i).n,(T i).t.set t v⟩:=h3
     rw [hTi] at hu
     change ((T i).t.set t v).get t=some u at hu
     rw [Tr.get_set,if_pos rfl] at hu
     cases hu
     have hts:t<a.tmps.size:=by
      rw [hI.tsz]
      refine yo ?_ hT0
      rw [←F.tn (Nat.le_of_lt hi)]
      exact h2
     refine ⟨v',?_,hv'.mono hle'⟩
     rw [hd]
     show (a.tmps.setIfInBounds t v')[t]? = some v'
     simp [hts]
   ·obtain ⟨u',h1,h2⟩:=hI.tmps t k hk (fun m o ho hdo=>by
     have:=hvw m o ho hdo
     have hmi:m≠i:=fun e=>hd (by subst e;rw [hoi] at ho;cases ho;exact hdo)
     constructor
     ·intro h;exact this.1 (.inl h)
     ·intro h;rcases this.2 h with h | h
      ·exact h
      ·exact absurd h hmi) u hu
    refine ⟨u',?_,h2.mono hle⟩
    cases hd2:oi.dst with
    | none=>exact h1
    | some t' =>
     show (a.tmps.setIfInBounds t' v')[t]? = some u'
     rw [Array.getElem?_setIfInBounds_ne (fun e=>hd (by rw [hd2,e]))]
     exact h1
  ·intro b x k o hb hk hbk hvw hob
   rw [hj'] at hb
   split at hb
   ·rename_i h
    have hg:=young b k h.1 h.2 hk hbk hvw
    obtain ⟨o',h1,h2⟩:=hs'.objs b x o hb (by rw [hRg,if_neg (hbl' b h.1),←hg];exact hob)
    exact ⟨o',h1,h2.mono hle'⟩
   ·rename_i h
    rcases old b x k hb h hk hbk hvw with ⟨h1,h2,h3⟩ | ⟨h1,h2⟩
    ·obtain ⟨o',h4,h5⟩:=hs'.objs b x o (he.sub b x h1) (by rw [hRg,if_neg h2,←h3];exact hob)
     exact ⟨o',h4,h5.mono hle'⟩
    ·have hxw:=(hI.dom b x hb).1
     by_cases hdd:o = .dead
     ·subst hdd
      have:=he.heap
      exact ⟨w'.heap[x.blk]'(by omega),by rw [Array.getElem?_eq_getElem],trivial⟩
     ·obtain ⟨o',h3,h4⟩:=hI.mem b x k o hb hk hbk h2 hob
      refine ⟨o',?_,h4.mono hle⟩
      rw [he.fr x.blk hxw fun d z hd _ hld=>unreach b x k hb hk hbk h2 ⟨o,hob,hdd⟩ h1 d z hd hld]
      exact h3
  ·intro b c x y k k' hb hcb hk hbk hvb lb hk' hck hvc lc e
   -- each of both lies within reach,or not
   have side:∀ b x k,j' b=some x→k≤ops.size→b<(S k).size→View ops T S R (fun m=>p m∨m=i) b k→live (S k) b →
     (ji' b=some x∧live Rk b)∨(j b=some x∧View ops T S R p b k∧¬ (b ∉ l∧∃ y,meet j jc b=some y)):=by
    intro b x k hb hk hbk hvw ⟨o,hob,hdd⟩
    rw [hj'] at hb
    split at hb
    ·rename_i h
     exact .inl ⟨hb,o,by rw [hRg,if_neg (hbl' b h.1),←young b k h.1 h.2 hk hbk hvw];exact hob,hdd⟩
    ·rename_i h
     rcases old b x k hb h hk hbk hvw with ⟨h1,h2,h3⟩ | ⟨h1,h2⟩
     ·exact .inl ⟨he.sub b x h1,o,by rw [hRg,if_neg h2,←h3];exact hob,hdd⟩
     ·exact .inr ⟨hb,h2,h1⟩
   have cross:∀ b c x y k',ji' b=some x→live Rk b→j c=some y→k'≤ops.size→c<(S k').size→View ops T S R p c k'→live (S k') c→¬ (c ∉ l∧∃ y,meet j jc c=some y)→x.blk=y.blk→False:=by
    intro b c x y k' hb hlb hcb hk' hck hvc lc hno e
    cases hm:meet j jc b with
    | some z =>
     have:=he.sub b z hm
     rw [hb] at this;cases this
     have hbs:b<(S i).size:=by obtain ⟨_,y1,h1⟩:=z1a hm;exact hcdom b y1 h1
     exact unreach c y k' hcb hk' hck hvc lc hno b x hm (he.dead b hbs hlb) e
    | none =>
     obtain ⟨_,h1⟩:=he.new b x hb hm
     rcases h1 with h1 | ⟨d,z,h2,_,h3,h4⟩
     ·have:=(hI.dom c y hcb).1;omega
     ·exact unreach c y k' hcb hk' hck hvc lc hno d z h2 h3 (by rw [h4,e])
   rcases side b x k hb hk hbk hvb lb with ⟨h1,h2⟩ | ⟨h1,h2,h3⟩ <;> rcases side c y k' hcb hk' hck hvc lc with ⟨h4,h5⟩ | ⟨h4,h5,h6⟩
   ·exact hs'.inj b c x y h1 h4 h2 h5 e
   ·exact (cross b c x y k' h1 h2 h4 hk' hck h5 lc h6 e).elim
   ·exact (cross c b y x k h4 h5 h1 hk hbk h2 lb h3 e.symm).elim
   ·exact hI.inj b c x y k k' h1 h4 hk hbk h2 lb hk' hck h5 lc e
  ·cases hd2:oi.dst with
   | none=>exact hI.tsz
   | some t =>
    show (a.tmps.setIfInBounds t v').size=_
    rw [Array.size_setIfInBounds];exact hI.tsz
  ·intro c hc0 hf
   have h1:=hI.fr c hc0 hf
   rw [←h1]
   refine he.fr c (yo hc0 hI.heap) fun d z hd hlo hld e=>?_
   obtain ⟨h2,y,h3⟩:=z1a hd
   have hlow2:(S ops.size).low≤d:=yn (F.low_le hi) (by rw [←hRl];exact hlo)
   cases hj0:j0 d with
   | some z' =>
    have:=hI.sub d z' hj0
    rw [h2] at this;cases this
    exact hf d z hj0 hlow2 (F.dead_mono (yu i) (Nat.le_of_lt hi) (hs0.dom d z hj0).1 (hlv d hld).2) e
   | none =>
    rcases hI.new d z h2 hj0 with h4 | ⟨c',y',h5,h6,h7,h8⟩
    ·omega
    ·exact hf c' y' h5 h6 h7 (by rw [h8,e])
  ·intro b x hb hn
   rw [hj'] at hb
   split at hb
   ·rename_i h
    have hmn:meet j jc b=none:=by
     cases hm:meet j jc b with
     | none=>rfl
     | some z=>have:=(z1a hm).1;rw [n1 b h.1 h.2] at this;cases this
    obtain ⟨_,h1⟩:=he.new b x hb hmn
    rcases h1 with h1 | ⟨d,z,h2,hlo,h3,h4⟩
    ·exact .inl (yn hI.heap h1)
    ·obtain ⟨h5,y,h6⟩:=z1a h2
     have hlow2:(S ops.size).low≤d:=yn (F.low_le hi) (by rw [←hRl];exact hlo)
     cases hj0:j0 d with
     | some z' =>
      have:=hI.sub d z' hj0
      rw [h5] at this;cases this
      exact .inr ⟨d,z,hj0,hlow2,F.dead_mono (yu i) (Nat.le_of_lt hi) (hs0.dom d z hj0).1 (hlv d h3).2,h4⟩
     | none =>
      rcases hI.new d z h5 hj0 with h7 | ⟨c',y',h8,h9,h10,h11⟩
      ·exact .inl (by omega)
      ·exact .inr ⟨c',y',h8,h9,h10,h11.trans h4⟩
   ·exact hI.new b x hb hn
 refine ⟨?_,fun K Q hKQ=>hW K Q fun v' w' ji' h1 h2 h3=>?_⟩
 ·obtain ⟨v',w',ji',h1,h2,h3⟩:=hex
  obtain ⟨j',h4⟩:=core v' w' ji' h1 h2 h3
  exact ⟨v',w',j',h4⟩
 ·obtain ⟨j',h4⟩:=core v' w' ji' h1 h2 h3
  exact hKQ v' w' j' h4
theorem zbx {w o:Op} (h:z7r w o=true):∃ t x k m k',o = .lookup t x k false∧w = .mapEntry t m k':=by
 unfold z7r at h
 split at h
 ·rename_i t x k ok
  simp only [yw,Bool.not_eq_true'] at h
  obtain ⟨rfl,h⟩:=h
  unfold zoT at h
  split at h
  ·rename_i t' m k'
   have:=Nat.eq_of_beq_eq_true h
   exact ⟨t,x,k,m,k',rfl,by rw [this]⟩
  ·cases h
 ·cases h
theorem zoC (F:Facts ops T S R) (hdr:Drawn ops) {m m' X:Nat} (hm:m<ops.size) (hm':m'<ops.size) (hlt:m<m') (h:Wr ops T S R m X) (h':Wr ops T S R m' X):Bef ops m m':=by
 have back:∀ {P:Prop},Bef ops m' m→P:=fun h=>by have:=z1D hdr.edge h;omega
 have far:∀ {k k' o},Rng ops T S R k→(R k).low≤X→ops[k']? = some o→k'≠k→storeAt (T k') o.op=some X→Bef ops k' k∨Bef ops k k':=by
  intro k k' o hr hl ho hne hs
  rcases F.rng k k' o hr ho hne with h1 | ⟨⟨lt,h1,h2⟩,_⟩
  ·exact h1
  ·have:=h2 X (z4Y hs h1);omega
 rcases F.cls m X hm h with hu | hone | hr
 ·exact (z2F hu m' hm' (by omega)).elim back id
 ·rcases F.cls m' X hm' h' with hu | hone' | hr'
  ·exact (z2F hu m hm (by omega)).elim id back
  ·obtain ⟨_,_,_,o',ho',hst'⟩:=hone'
   have hone':One ops T S R m' X:=⟨by assumption,by assumption,by assumption,o',ho',hst'⟩
   rcases F.one m X m' o' hone ho' (by omega) with h1 | ⟨h1,_⟩
   ·unfold z1j at h1
    simp only [Bool.or_eq_true,yw,Bool.not_eq_true'] at h1
    rcases h1 with h1 | h1 | h1
    ·exact (compL_iff.1 h1).elim back id
    ·exfalso
     obtain ⟨h2,h3⟩:=h1
     have h2:=zF h2
     obtain ⟨a1,a2,a3⟩:=F.mkr_spec hm h2 h.1
     obtain ⟨b1,b2,b3⟩:=F.mkr_spec hm' h2 h'.1
     have e:=F.uniq (by omega) (by omega) a2 a3 b2 b3
     rcases F.made m' X hone' with h4 | h4
     ·omega
     ·rw [←e] at h4
      unfold Bef at h4
      rw [h4] at h3;cases h3
    ·exfalso
     cases ht:zH (T m') o'.op with
     | none=>rw [ht] at h1;cases h1
     | some lt =>
      rw [ht] at h1
      have:=List.all_eq_true.1 h1 X (z4Y hst' ht)
      simp at this
   ·omega
  ·obtain ⟨_,_,_,o',ho',hst'⟩:=hone
   exact (far hr' h'.2.1 ho' (by omega) hst').elim id back
 ·rcases F.cls m' X hm' h' with hu | ⟨_,_,_,o',ho',hst'⟩ | ⟨_,_,_,o',ho',_,htn,_⟩
  ·exact (z2F hu m hm (by omega)).elim id back
  ·exact (far hr h.2.1 ho' (by omega) hst').elim back id
  ·rcases F.rng m m' o' hr ho' (by omega) with h1 | ⟨⟨lt,h1,_⟩,_⟩
   ·exact h1.elim back id
   ·rw [htn] at h1;cases h1
theorem zil {i n:Nat} (d:Nat→Prop):∃ k,i≤k∧(∀ m,i<m→m<n→d m→m<k)∧(k=i∨∃ m,i<m∧m<n∧d m∧k=m+1):=by
 induction n with
 | zero=>exact ⟨i,ym _,fun m _ h=>by omega,.inl rfl⟩
 | succ n ih =>
  obtain ⟨k,h1,h2,h3⟩:=ih
  by_cases hd:i<n∧d n
  ·exact ⟨n+1,by omega,fun m _ h _=>h,.inr ⟨n,hd.1,Nat.lt_succ_self n,hd.2,rfl⟩⟩
  ·refine ⟨k,h1,fun m a b c=>?_,h3.imp id fun ⟨m,a,b,c⟩=>⟨m,a,by omega,c⟩⟩
   by_cases e:m=n
   ·subst e;exact absurd ⟨a,c⟩ hd
   ·exact h2 m a (by omega) c
open Classical in
theorem zhw (hG:Yj G) (hA:z0h G callF) (hC:z0u G codeF) (hc:(ops.toList.all fun o=>o.op.operands.toList.all z0V)=true) (hw:Way G callF codeF ops T S R D 0 ops.size) (F:Facts ops T S R) (hdr:Drawn ops)
  (hs0:Sim G j0 (S 0) w0) (hT0:(T 0).n≤a0.tmps.size) {p:Nat→Prop} {a:Act} {w:World} {j:Inj} {i:Nat} {oi:Oper} (hoi:ops[i]? = some oi) {t:TypeId} {x k:Operand} (hop:oi.op = .lookup t x k false) (hpi:¬ p i) (hpB:∀ m,Bef ops m i→p m) (hcl:Cl ops p)
  (hI:Inv G ops T S R j0 a0 w0 p a w j) {ac:Act} {wc:World} {jc:Inj} (hK:Inv G ops T S R j0 a0 w0 (fun m=>Bef ops m i) ac wc jc) (rd':Option Nat) (n:Nat) :
  (∃ v' w' j',Inv G ops T S R j0 a0 w0 (fun m=>p m∨m=i) (a.put oi.dst v') w' j') ∧
  ∀ (K:Act→World→Prop) (Q:Exit→Act→World→Prop),(∀ v' w' j',Inv G ops T S R j0 a0 w0 (fun m=>p m∨m=i) (a.put oi.dst v') w' j'→K (a.put oi.dst v') w')→wpOpIn (z0b rd') n G.P ops Q i K a w:=by
 have hi:i<ops.size:=(Array.getElem?_eq_some_iff.1 hoi).1
 obtain ⟨o,ho,hst,hS1,_⟩:=hw.step i (yu _) hi
 rw [hoi] at ho;cases ho
 have hco:=List.all_eq_true.1 hc oi (by rw [←Array.getElem?_toList] at hoi;exact List.mem_of_getElem? hoi)
 have cmp:∀ m,(Bef ops m i∨Bef ops i m)→(p m ↔ m<i)∧(Bef ops m i ↔ m<i):=by
  intro m h
  rcases h with h | h
  ·have:=z1D hdr.edge h
   exact ⟨⟨fun _=>this,fun _=>hpB m h⟩,⟨fun _=>this,fun _=>h⟩⟩
  ·have h1:=z1D hdr.edge h
   exact ⟨⟨fun hp=>absurd (z0C h hcl hp) hpi,fun h2=>by omega⟩,⟨fun h2=>by have:=z1D hdr.edge h2;omega,fun h2=>by omega⟩⟩
 have self:∀ m,m=i→(p m ↔ m<i)∧(Bef ops m i ↔ m<i):=by
  rintro m rfl
  exact ⟨⟨fun h=>absurd h hpi,fun h=>by omega⟩,⟨fun h=>z1D hdr.edge h,fun h=>by omega⟩⟩
 have tkey:∀ t,t∈readsOf ops oi→∀ m o,ops[m]? = some o→o.dst=some t→(p m ↔ m<i)∧(Bef ops m i ↔ m<i):=by
  intro t ht m o ho hd
  rcases Nat.lt_trichotomy m i with h | h | h
  ·rcases hdr.apart m i o oi ho hoi h with h1 | ⟨h1,_⟩
   ·exact cmp m (.inl h1)
   ·exact absurd ht (h1 t hd).1
  ·exact self m h
  ·rcases hdr.apart i m oi o hoi ho h with h1 | ⟨_,h1⟩
   ·exact cmp m (.inr h1)
   ·exact absurd ht (h1 t hd)
 have hRel:RelTmps j (T i) a.tmps (readsOf ops oi):=fun t ht v hv=>hI.tmps t i (Nat.le_of_lt hi) (fun m o ho hd=>(tkey t ht m o ho hd).1) v hv
 have hRelK:RelTmps jc (T i) ac.tmps (readsOf ops oi):=fun t ht v hv=>hK.tmps t i (Nat.le_of_lt hi) (fun m o ho hd=>(tkey t ht m o ho hd).2) v hv
 have hcdom:∀ b y,jc b=some y→b<(S i).size:=by
  intro b y hb
  rcases (hK.dom b y hb).2 with ⟨h1,_⟩ | ⟨m,hm,h1,h2,h3⟩
  ·have:=F.size_mono (yu i) (Nat.le_of_lt hi);omega
  ·have:=z1D hdr.edge h1
   have:=F.size_mono (show m+1≤i from this) (Nat.le_of_lt hi)
   omega
 -- it changes nothing
 have hR:R i=⟨(S i).heap,(S i).size,(S i).size⟩∧(∃ v,(T i).put oi.dst v=some (T (i+1))):=by
  obtain ⟨b,hb,h1⟩:=z8 hst
  cases b with
  | false =>
   obtain ⟨T',h2,h3⟩:=z8 h1
   have e:=Option.some.inj h3
   rw [show T'=T (i+1) from congrArg Prod.fst e] at h2
   exact ⟨(congrArg Prod.snd e).symm,_,h2⟩
  | true =>
   obtain ⟨q,hq,h2⟩:=z8 h1
   obtain ⟨T',h3,h4⟩:=z8 h2
   have e:=Option.some.inj h4
   rw [show T'=T (i+1) from congrArg Prod.fst e] at h3
   rw [hop] at hq
   exact ⟨(congrArg Prod.snd e).symm.trans (z1T hq).2,_,h3⟩
 have hnw:∀ b,¬ Wr ops T S R i b:=fun b ⟨h1,h2,_⟩=>by rw [hR.1] at h2;exact absurd h1 (Nat.not_lt.2 h2)
 have hSs:(S (i+1)).size=(S i).size:=by rw [hS1,hR.1]
 have view:∀ {b k},View ops T S R (fun m=>p m∨m=i) b k→View ops T S R p b k:=by
  intro b k hv m hm hwr
  have:=hv m hm hwr
  have hmi:m≠i:=fun e=>hnw b (by rw [←e];exact hwr)
  exact ⟨fun h=>this.1 (.inl h),fun h=>(this.2 h).resolve_right hmi⟩
 -- where it suffices to look at one block
 obtain ⟨N,hN⟩:∃ N,N=(S ops.size).size:=⟨_,rfl⟩
 have fin:∀ Sv:St,Sv.size=N→Sv.low=N→(∀ b,live Sv b→∃ X k,b=X∧k≤ops.size∧X<(S k).size∧View ops T S R p X k∧Sv.heap.get X=(S k).heap.get X)→(∀ b c,live Sv b→live Sv c→b=c) →
   zq G.E callF codeF ops oi (T i) Sv=some (T (i+1),Sv) →
   (∃ v' w' j',Inv G ops T S R j0 a0 w0 (fun m=>p m∨m=i) (a.put oi.dst v') w' j') ∧
   ∀ (K:Act→World→Prop) (Q:Exit→Act→World→Prop),(∀ v' w' j',Inv G ops T S R j0 a0 w0 (fun m=>p m∨m=i) (a.put oi.dst v') w' j'→K (a.put oi.dst v') w')→wpOpIn (z0b rd') n G.P ops Q i K a w:=by
  intro Sv hsz hlo hlv huq hstk
  have hjN:∀ b x,j b=some x→b<N:=by
   intro b x hb
   rw [hN]
   rcases (hI.dom b x hb).2 with ⟨h1,_⟩ | ⟨m,hm,_,_,h1⟩
   ·exact yo h1 (F.size_mono (yu _) (ym _))
   ·exact yo h1 (F.size_mono (show m+1≤ops.size from hm) (ym _))
  have hSim:Sim G j Sv w:=by
   refine ⟨fun b x hb=>⟨by rw [hsz];exact hjN b x hb,(hI.dom b x hb).1⟩,fun b x o hb ho=>?_,fun b c x y hb hcb lb lc e=>huq b c lb lc,zdH F hs0 hI hI.sub (Le.refl j) (fun d hd=>?_)⟩
   ·by_cases hdd:o = .dead
    ·subst hdd
     have:=(hI.dom b x hb).1
     exact ⟨w.heap[x.blk],by rw [Array.getElem?_eq_getElem],trivial⟩
    ·obtain ⟨X,k,rfl,hk,hX,hv,hg⟩:=hlv b ⟨o,ho,hdd⟩
     exact hI.mem b x k o hb hk hX hv (by rw [←hg];exact ho)
   ·obtain ⟨X,k,rfl,hk,hX,hv,hg⟩:=hlv d hd
    obtain ⟨o,ho,hdd⟩:=hd
    exact ⟨k,hk,o,by rw [←hg];exact ho,hdd⟩
  obtain ⟨hlow,v,hv,hex,hW⟩:=z3S hG hSim hA hC hRel hco hoi hstk rd' n
  have core:∀ v' w' ji',Yf ji' v v'→Sim G ji' Sv w'→Ext Sv.low j Sv w ji' Sv w'→Inv G ops T S R j0 a0 w0 (fun m=>p m∨m=i) (a.put oi.dst v') w' j:=by
   intro v' w' ji' hv' hs' he
   have hle':Le ji' j:=by
    intro b x hb
    cases hj:j b with
    | none=>have h1:=(he.new b x hb hj).1;have h2:=(hs'.dom b x hb).1;omega
    | some y=>have:=he.sub b y hj;rw [hb] at this;exact this.symm
   have hkeep:∀ c,c<w.heap.size→w'.heap[c]? = w.heap[c]? :=fun c hcw=>he.fr c hcw fun b x hb hlo' _=>by
    have:=hjN b x hb
    omega
   refine ⟨hI.sub,fun b x hb=>?_,fun m hm hpm b h1 h2=>?_,fun t k hk hvw u hu=>?_,fun b x k o hb hk hbk hvw hob=>?_,fun b c x y k k' hb hcb hk hbk hvb lb hk' hck hvc lc e=>hI.inj b c x y k k' hb hcb hk hbk (view hvb) lb hk' hck (view hvc) lc e,by rw [put_defers];exact hI.defs,?_,yn hI.heap he.heap,fun c hc0 hf=>?_,hI.new,hI.io.trans he.io⟩
   ·obtain ⟨h1,h2⟩:=hI.dom b x hb
    exact ⟨yo h1 he.heap,h2.imp id fun ⟨m,hm,h3,h4⟩=>⟨m,hm,.inl h3,h4⟩⟩
   ·rcases hpm with h | h
    ·exact hI.all m hm h b h1 h2
    ·subst h;rw [hSs] at h2;omega
   ·by_cases hd:oi.dst=some t
    ·rcases z4o hv with ⟨h1,_⟩ | ⟨t',h1,h2,h3⟩
     ·rw [hd] at h1;cases h1
     ·rw [hd] at h1;cases h1
      have hik:i<k:=(hvw i oi hoi hd).1 (.inr rfl)
      have hkeep:=F.tkeep (t:=t) (show i+1≤k from hik) hk fun m o hm1 hm2 ho hdo=>by
       rcases (hvw m o ho hdo).2 hm2 with h | h
       ·rcases hdr.apart i m oi o hoi ho (by omega) with h4 | ⟨h4,_⟩
        ·exact hpi (z0C h4 hcl h)
        ·exact (h4 t hd).2 hdo
       ·omega
      rw [hkeep] at hu
      have hTi:(T (i+1))=⟨(T i).n,(T i).t.set t v⟩:=h3
      rw [hTi] at hu
      change ((T i).t.set t v).get t=some u at hu
      rw [Tr.get_set,if_pos rfl] at hu
      cases hu
      have hts:t<a.tmps.size:=by
       rw [hI.tsz]
       refine yo ?_ hT0
       rw [←F.tn (Nat.le_of_lt hi)]
       exact h2
      refine ⟨v',?_,hv'.mono hle'⟩
      rw [hd]
      show (a.tmps.setIfInBounds t v')[t]? = some v'
      simp [hts]
    ·obtain ⟨u',h1,h2⟩:=hI.tmps t k hk (fun m o ho hdo=>by
      have:=hvw m o ho hdo
      have hmi:m≠i:=fun e=>hd (by subst e;rw [hoi] at ho;cases ho;exact hdo)
      exact ⟨fun h=>this.1 (.inl h),fun h=>(this.2 h).resolve_right hmi⟩) u hu
     refine ⟨u',?_,h2⟩
     cases hd2:oi.dst with
     | none=>exact h1
     | some t' =>
      show (a.tmps.setIfInBounds t' v')[t]? = some u'
      rw [Array.getElem?_setIfInBounds_ne (fun e=>hd (by rw [hd2,e]))]
      exact h1
   ·obtain ⟨o',h3,h4⟩:=hI.mem b x k o hb hk hbk (view hvw) hob
    exact ⟨o',by rw [hkeep _ (hI.dom b x hb).1];exact h3,h4⟩
   ·cases hd2:oi.dst with
    | none=>exact hI.tsz
    | some t =>
     show (a.tmps.setIfInBounds t v').size=_
     rw [Array.size_setIfInBounds];exact hI.tsz
   ·rw [hkeep c (yo hc0 hI.heap)];exact hI.fr c hc0 hf
  refine ⟨?_,fun K Q hKQ=>hW K Q fun v' w' ji' h1 h2 h3=>?_⟩
  ·obtain ⟨v',w',ji',h1,h2,h3⟩:=hex
   exact ⟨v',w',j,core v' w' ji' h1 h2 h3⟩
  ·exact hKQ v' w' j (core v' w' ji' h1 h2 h3)
 have none_step:zq G.E callF codeF ops oi (T i) (⟨.nil,N,N⟩:St)=some (T (i+1),⟨.nil,N,N⟩)→_:=fun h =>
  fin ⟨.nil,N,N⟩ rfl rfl (fun b ⟨o,ho,_⟩=>by rw [Tr.get_nil] at ho;cases ho) (fun b c ⟨o,ho,_⟩=>by rw [Tr.get_nil] at ho;cases ho) h
 obtain ⟨b,hb,h1⟩:=z8 hst
 cases b with
 | false =>
  obtain ⟨T',h2,h3⟩:=z8 h1
  obtain rfl:T'=T (i+1):=congrArg Prod.fst (Option.some.inj h3)
  refine none_step ?_
  unfold zq
  rw [hb]
  show z3P (T i) oi.dst (undef,_)=_
  unfold z3P
  rw [h2];rfl
 | true =>
  obtain ⟨q,hq,h2⟩:=z8 h1
  obtain ⟨T',h3,h4⟩:=z8 h2
  obtain rfl:T'=T (i+1):=congrArg Prod.fst (Option.some.inj h4)
  rw [hop] at hq
  obtain ⟨h5,_⟩:=z1T hq
  obtain ⟨m,hm,h6⟩:=z8 h5
  obtain ⟨kv,hkv,h7⟩:=z8 h6
  obtain ⟨ii,hii,h8⟩:=z8 h7
  obtain ⟨d,hdd,h9⟩:=z8 h8
  obtain ⟨kt,hkt,h10⟩:=z8 h9
  obtain ⟨et,het,h11⟩:=z8 h10
  obtain ⟨es,hes,h12⟩:=z8 h11
  obtain ⟨hkk,h13⟩:=ze h12
  obtain ⟨f,hf,h14⟩:=z8 h13
  have again:∀ (Sv:St) (es':List (Value×Value)),mapOf Sv m=some es'→zql G.E kt et.zero es es'→zq G.E callF codeF ops oi (T i) Sv=some (T (i+1),Sv):=by
   intro Sv es' he hx
   obtain ⟨r',hr,hre⟩:=ziZ hkt hkk hx hf
   unfold zq
   rw [hb,hop]
   show ob (zR G.E callF codeF (T i) Sv (.lookup t x k false)) _=_
   have:zR G.E callF codeF (T i) Sv (.lookup t x k false)=some (q.1,Sv):=by
    show zG Sv (ob ((T i).ev x) fun u=>ob ((T i).ev k) fun v=>z0n G.E t u v false Sv)=_
    rw [hm,hkv]
    show zG Sv (z0n G.E t m kv false Sv)=_
    have:z0n G.E t m kv false Sv=some q.1:=by
     unfold z0n
     rw [hii]
     show ob (mapD ii.desc) _=_
     rw [hdd]
     show ob (G.E.ti.get d.1) _=_
     rw [hkt]
     show ob (G.E.ti.get d.2) _=_
     rw [het]
     show ob (mapOf Sv m) _=_
     rw [he]
     show gd (z2K G.E kt kv) (ob (z7v G.E d.1 kv es') _)=_
     rw [hkk,hr,←h14]
     show some (((r'.map (·.2)).getD et.zero))=some ((f.map (·.2)).getD et.zero)
     rw [hre]
    rw [this];rfl
   rw [this]
   show z3P (T i) oi.dst (q.1,Sv)=_
   unfold z3P
   rw [h3];rfl
  have hnil:zql G.E kt et.zero es es:=⟨[],by simp,fun q h=>by simp at h⟩
  cases hmm:z3c m with
  | none=>rw [show mapOf (⟨(S i).heap,(S i).size,(S i).size⟩:St) m=none by cases m <;> first | rfl | (rename_i r;cases r <;> cases hmm)] at hes;cases hes
  | some lm =>
   have hmv:m = .map none∨∃ X,m = .map (some X):=by
    cases m <;> first | (cases hmm;done) | skip
    rename_i r
    cases r with
    | none=>exact .inl rfl
    | some X=>exact .inr ⟨X,rfl⟩
   rcases hmv with rfl | ⟨X,rfl⟩
   ·refine none_step (again _ es ?_ hnil)
    cases hes;rfl
   ·-- the map's block
    have hrx:∀ {j:Inj} {a:Act},RelTmps j (T i) a.tmps (readsOf ops oi)→∃ y,j X=some y:=by
     intro j a hr
     have:=(hr.ops hco) x (by rw [hop];simp [Op.operands]) _ hm
     generalize a.eval x=y at this
     cases this with
     | map h=>exact ⟨_,h⟩
    obtain ⟨y,hy⟩:=hrx hRel
    obtain ⟨yc,hyc⟩:=hrx hRelK
    have hXi:=hcdom X yc hyc
    have htl:zH (T i) oi.op=some [X]:=by
     rw [hop]
     show ob ((T i).ev x) z3c=_
     rw [hm];rfl
    have hgX:(S i).heap.get X=some (.map es):=by
     obtain ⟨o,ho,h⟩:=z8 hes
     rw [show (S i).heap.get X=some o from ho]
     cases o <;> first | (cases h;done) | skip
     cases h;rfl
    have hcf:∀ m,m<ops.size→i≠m→Wr ops T S R m X→(Bef ops m i∨Bef ops i m)∨(i<m∧∃ w,ops[m]? = some w∧z7r w.op oi.op=true):=by
     intro m hm hne hwr
     rcases conf F hoi hm hne hwr hK hyc with h | ⟨lt,h,h'⟩ | ⟨_,h⟩
     ·exact .inl h
     ·rw [htl] at h;cases h;simp at h'
     ·exact .inr h
    obtain ⟨k0,hk0,hmax,hk0'⟩:=zil (i:=i) (n:=ops.size) (fun m=>Wr ops T S R m X∧p m)
    have hk0s:k0≤ops.size:=by
     rcases hk0' with rfl | ⟨m,_,h,_,rfl⟩
     ·exact Nat.le_of_lt hi
     ·exact h
    have hv:View ops T S R p X k0:=by
     intro m hm hwr
     rcases Nat.lt_trichotomy m i with h | h | h
     ·rcases hcf m hm (by omega) hwr with h1 | h1
      ·exact ⟨fun _=>by omega,fun _=>(cmp m h1).1.2 h⟩
      ·omega
     ·exact absurd (h ▸ hwr) (hnw X)
     ·refine ⟨fun hp=>hmax m h hm ⟨hwr,hp⟩,fun hlt=>?_⟩
      rcases hk0' with rfl | ⟨m',h1,h2,h3,rfl⟩
      ·omega
      ·by_cases e:m=m'
       ·rw [e];exact h3.2
       ·exact z0C (zoC F hdr hm h2 (by omega) hwr h3.1) hcl h3.2
    have grow:∀ k,i≤k→k≤k0→∃ es',(S k).heap.get X=some (.map es')∧zql G.E kt et.zero es es':=by
     intro k hik
     obtain ⟨n0,rfl⟩:∃ n0,k=i+n0:=⟨k - i,by omega⟩
     clear hik
     induction n0 with
     | zero=>exact fun _=>⟨es,hgX,hnil⟩
     | succ n0 ih =>
      intro hk
      obtain ⟨k,hkk0⟩:∃ k,k=i+n0:=⟨_,rfl⟩
      rw [←hkk0] at ih
      rw [show i+(n0+1)=k+1 by omega] at hk ⊢
      have hik:i≤k:=by omega
      obtain ⟨es',he,hx⟩:=ih (by omega)
      have hks:k<ops.size:=by omega
      have hXk:X<(S k).size:=yo hXi (F.size_mono hik (by omega))
      by_cases hwr:Wr ops T S R k X
      ·have hpk:=(hv k hks hwr).2 (by omega)
       have hki:i≠k:=fun e=>hpi (e ▸ hpk)
       rcases hcf k hks hki hwr with h1 | ⟨_,w,hwk,hsr⟩
       ·have:=(cmp k h1).1.1 hpk
        omega
       ·obtain ⟨t',x',k',m',kk',e1,e2⟩:=zbx hsr
        rw [hop] at e1;cases e1
        obtain ⟨o,ho,hstk,hS2,_⟩:=hw.step k (yu _) hks
        rw [hwk] at ho;cases ho
        have hstX:∃ u,(T k).ev m'=some u∧z3M u=some X:=by
         rcases F.cls k X hks hwr with hu | hone | ⟨_,_,_,o2,ho2,hcb,_⟩
         case inr.inr=>rw [hwk] at ho2;cases ho2;rw [e2] at hcb;cases hcb
         ·rcases z2F hu i hi hki with h | h
          ·exact absurd (z0C h hcl hpk) hpi
          ·have:=z1D hdr.edge h;omega
         ·obtain ⟨_,_,_,o2,ho2,hs2⟩:=hone
          rw [hwk] at ho2;cases ho2
          rw [e2] at hs2
          exact z8 hs2
        obtain ⟨u,hu,hur⟩:=hstX
        obtain ⟨b2,hb2,g1⟩:=z8 hstk
        cases b2 with
        | false =>
         obtain ⟨_,_,g3⟩:=z8 g1
         refine ⟨es',?_,hx⟩
         rw [hS2]
         have:(R k).heap=(S k).heap:=congrArg (fun r=>St.heap (Prod.snd r)) (Option.some.inj g3).symm
         show (R k).heap.get X=_
         rw [this];exact he
        | true =>
         obtain ⟨q2,hq2,g2⟩:=z8 g1
         obtain ⟨T2,_,g4⟩:=z8 g2
         have hRk:R k=q2.2:=(congrArg Prod.snd (Option.some.inj g4)).symm
         rw [e2] at hq2
         obtain ⟨u1,hu1,hq2⟩:=z8 hq2
         rw [hu] at hu1;cases hu1
         obtain ⟨kv2,hkv2,hq2⟩:=z8 hq2
         obtain ⟨i2,hi2,hq2⟩:=z8 hq2
         rw [hii] at hi2;cases hi2
         obtain ⟨d2,hd2,hq2⟩:=z8 hq2
         rw [hdd] at hd2;cases hd2
         obtain ⟨kt2,hkt2,hq2⟩:=z8 hq2
         rw [hkt] at hkt2;cases hkt2
         obtain ⟨et2,het2,hq2⟩:=z8 hq2
         rw [het] at het2;cases het2
         obtain ⟨r2,hr2,hq2⟩:=z8 hq2
         rw [hur] at hr2;cases hr2
         obtain ⟨es2,hes2,hq2⟩:=z8 hq2
         have hes3:ob ((S k).heap.get X) z8x=some es2:=hes2
         rw [he] at hes3
         obtain rfl:es'=es2:=Option.some.inj hes3
         obtain ⟨hkk2,hq2⟩:=ze hq2
         obtain ⟨f2,_,hq2⟩:=z8 hq2
         rw [hS2,hRk]
         cases f2 with
         | none =>
          cases hq2
          refine ⟨es'++[(kv2,et.zero)],?_,?_⟩
          ·show ((⟨(S k).heap,(S k).size,(S k).size⟩:St).put X _).heap.get X=_
           rw [get_put,if_pos rfl]
          ·obtain ⟨l,rfl,hl⟩:=hx
           refine ⟨l++[(kv2,et.zero)],by simp,fun q hq=>?_⟩
           rcases List.mem_append.1 hq with h | h
           ·exact hl q h
           ·obtain rfl:=List.mem_singleton.1 h
            exact ⟨hkk2,rfl⟩
         | some qq =>
          cases hq2
          refine ⟨es',?_,hx⟩
          show ((⟨(S k).heap,(S k).size,(S k).size⟩:St).put X _).heap.get X=_
          rw [get_put,if_pos rfl]
      ·refine ⟨es',?_,hx⟩
       rw [F.lfr k X hks hXk hwr];exact he
    obtain ⟨es',he,hx⟩:=grow k0 hk0 (ym _)
    have hXk:X<(S k0).size:=yo hXi (F.size_mono hk0 hk0s)
    have hget:∀ b,((Tr.nil:Tr Yg).set X (.map es')).get b=if b=X then some (.map es') else none:=fun b=>by rw [Tr.get_set,Tr.get_nil]
    have hlvX:∀ b,live (⟨(Tr.nil:Tr Yg).set X (.map es'),N,N⟩:St) b→b=X:=by
     rintro b ⟨o,ho,_⟩
     change ((Tr.nil:Tr Yg).set X (.map es')).get b=some o at ho
     rw [hget] at ho
     split at ho
     ·assumption
     ·cases ho
    refine fin ⟨(Tr.nil:Tr Yg).set X (.map es'),N,N⟩ rfl rfl (fun b hb=>⟨X,k0,hlvX b hb,hk0s,hXk,hv,?_⟩) (fun b c hb hc=>by rw [hlvX b hb,hlvX c hc]) (again _ es' ?_ hx)
    ·show ((Tr.nil:Tr Yg).set X (.map es')).get X=_
     rw [hget,if_pos rfl,he]
    ·show ob (((Tr.nil:Tr Yg).set X (.map es')).get X) z8x=_
     rw [hget,if_pos rfl];rfl
theorem zc2 (hG:Yj G) (hA:z0h G callF) (hC:z0u G codeF) (hc:(ops.toList.all fun o=>o.op.operands.toList.all z0V)=true) (hw:Way G callF codeF ops T S R D 0 ops.size) (F:Facts ops T S R) (hdr:Drawn ops)
  (hs0:Sim G j0 (S 0) w0) (hT0:(T 0).n≤a0.tmps.size) {p:Nat→Prop} {a:Act} {w:World} {j:Inj} {i:Nat} {oi:Oper} (hoi:ops[i]? = some oi) (hpi:¬ p i) (hpB:∀ m,Bef ops m i→p m) (hcl:Cl ops p)
  (hI:Inv G ops T S R j0 a0 w0 p a w j) {ac:Act} {wc:World} {jc:Inj} (hK:Inv G ops T S R j0 a0 w0 (fun m=>Bef ops m i) ac wc jc) (rd':Option Nat) (n:Nat) :
  (∃ v' w' j',Inv G ops T S R j0 a0 w0 (fun m=>p m∨m=i) (a.put oi.dst v') w' j') ∧
  ∀ (K:Act→World→Prop) (Q:Exit→Act→World→Prop),(∀ v' w' j',Inv G ops T S R j0 a0 w0 (fun m=>p m∨m=i) (a.put oi.dst v') w' j'→K (a.put oi.dst v') w')→wpOpIn (z0b rd') n G.P ops Q i K a w:=by
 by_cases h:∃ w,z7r w oi.op=true
 ·obtain ⟨w',h⟩:=h
  obtain ⟨t,x,k,m,k',e,_⟩:=zbx h
  exact zhw hG hA hC hc hw F hdr hs0 hT0 hoi e hpi hpB hcl hI hK rd' n
 ·exact ziJ hG hA hC hc hw F hdr hs0 hT0 hoi (fun w'=>by cases h':z7r w' oi.op with | false=>rfl | true=>exact absurd ⟨w',h'⟩ h) hpi hpB hcl hI hK rd' n
end
section
variable {G:Good} {callF:z1f} {codeF:z15} {ops:Array Oper} {T:Nat→Fr} {S R:Nat→St} {D:Nat→Dr} {j0:Inj} {a0:Act} {w0:World}
theorem zpx (hG:Yj G) (hA:z0h G callF) (hC:z0u G codeF) (hc:(ops.toList.all fun o=>o.op.operands.toList.all z0V)=true) (hw:Way G callF codeF ops T S R D 0 ops.size) (F:Facts ops T S R) (hdr:Drawn ops)
  (hs0:Sim G j0 (S 0) w0) (hT0:TRel j0 (T 0) a0.tmps):∀ k,k≤ops.size→∀ p:Nat→Prop,Cl ops p→(∀ m,p m→m<k)→∃ a w j,Inv G ops T S R j0 a0 w0 p a w j:=by
 intro k
 induction k with
 | zero=>exact fun _ p _ hp=>⟨a0,w0,j0,zcd (fun m _ h=>by have:=hp m h;omega) F hs0 hT0 rfl⟩
 | succ k ih =>
  intro hk p hcl hp
  by_cases hpk:p k
  ·have hlt:k<ops.size:=by omega
   have hcl':Cl ops (fun m=>p m∧m≠k):=fun i o ho hi e he hb=>by
    have:=hdr.edge i o e ho he hb
    have:=hp i hi.1
    exact ⟨hcl i o ho hi.1 e he hb,by omega⟩
   obtain ⟨a,w,j,hI⟩:=ih (by omega) (fun m=>p m∧m≠k) hcl' (fun m hm=>by have:=hp m hm.1;have:=hm.2;omega)
   obtain ⟨ac,wc,jc,hK⟩:=ih (by omega) (fun m=>Bef ops m k) (zmk hdr.edge k) (fun m hm=>z1D hdr.edge hm)
   obtain ⟨⟨v',w',j',h⟩,_⟩:=zc2 hG hA hC hc hw F hdr hs0 hT0.1 (Array.getElem?_eq_getElem hlt) (p:=fun m=>p m∧m≠k) (fun h=>h.2 rfl) (fun m hm=>⟨z0C hm hcl hpk,by have:=z1D hdr.edge hm;omega⟩) hcl' hI hK none 0
   have e:(fun m=>(p m∧m≠k)∨m=k)=p:=by
    funext m
    apply propext
    constructor
    ·rintro (h | h)
     ·exact h.1
     ·rw [h];exact hpk
    ·intro h
     by_cases hm:m=k
     ·exact .inr hm
     ·exact .inl ⟨h,hm⟩
   rw [e] at h
   exact ⟨_,w',j',h⟩
  ·exact ih (by omega) p hcl fun m hm=>by
    have:=hp m hm
    by_cases e:m=k
    ·rw [e] at hm;exact absurd hm hpk
    ·omega
theorem ziw (F:Facts ops T S R) (hs0:Sim G j0 (S 0) w0) (hT0:TRel j0 (T 0) a0.tmps) {p:Nat→Prop} (hp:∀ m,m<ops.size→p m) {a:Act} {w:World} {j:Inj} (hI:Inv G ops T S R j0 a0 w0 p a w j) :
  a.defers=a0.defers∧TRel j (T ops.size) a.tmps∧Sim G j (S ops.size) w∧Ext (S ops.size).low j0 (S 0) w0 j (S ops.size) w:=by
 have hv:∀ b,View ops T S R p b ops.size:=fun b m hm _=>⟨fun _=>hm,fun _=>hp m hm⟩
 have hsz:∀ b x,j b=some x→b<(S ops.size).size:=by
  intro b x hb
  have h0:=F.size_mono (yu _) (ym ops.size)
  rcases (hI.dom b x hb).2 with ⟨h1,_⟩ | ⟨m,hm,_,_,h1⟩
  ·omega
  ·have:=F.size_mono (show m+1≤ops.size from hm) (ym _);omega
 refine ⟨hI.defs,⟨?_,fun t v ht=>?_⟩,⟨fun b x hb=>⟨hsz b x hb,(hI.dom b x hb).1⟩,fun b x o hb ho=>hI.mem b x _ o hb (ym _) (hsz b x hb) (hv b) ho,fun b c x y hb hc lb lc e=>?_,zdH F hs0 hI hI.sub (Le.refl j) (fun d hd=>⟨_,ym _,hd⟩)⟩,?_⟩
 ·rw [F.tn (ym _),hI.tsz];exact hT0.1
 ·exact hI.tmps t _ (ym _) (fun m o ho _=>by
   have hm:m<ops.size:=(Array.getElem?_eq_some_iff.1 ho).1
   exact ⟨fun _=>hm,fun _=>hp m hm⟩) v ht
 ·exact hI.inj b c x y _ _ hb hc (ym _) (hsz b x hb) (hv b) lb (ym _) (hsz c y hc) (hv c) lc e
 ·refine ⟨hI.sub,F.size_mono (yu _) (ym _),hI.heap,fun b hb hl=>F.dead_mono (yu _) (ym _) hb hl,fun b hb hlo=>?_,hI.fr,fun b x hb hn=>⟨?_,hI.new b x hb hn⟩,?_,hI.io⟩
  ·refine F.keep (yu _) (ym _) hb fun m _ hm hwr=>?_
   have:=F.low_le hm
   have:=hwr.2.1
   omega
  ·rcases (hI.dom b x hb).2 with ⟨_,h1⟩ | ⟨m,hm,_,h1,_⟩
   ·rw [h1] at hn;cases hn
   ·have:=F.size_mono (yu m) (Nat.le_of_lt hm);omega
  ·intro b h1 h2
   have:∀ k,k≤ops.size→b<(S k).size→∃ m,m<k∧(S m).size≤b∧b<(S (m+1)).size:=by
    intro k
    induction k with
    | zero=>intro _ h;omega
    | succ k ih =>
     intro hk hb
     by_cases h3:b<(S k).size
     ·obtain ⟨m,h4,h5⟩:=ih (by omega) h3
      exact ⟨m,by omega,h5⟩
     ·exact ⟨k,by omega,by omega,hb⟩
   obtain ⟨m,hm,h3,h4⟩:=this ops.size (ym _) h2
   exact hI.all m hm (hp m hm) b h3 h4
theorem mem_ready {listed:Array Bool} {i:Nat} (h:i∈Region.ready .any ops listed):∃ o,ops[i]? = some o∧listed[i]? = some false∧∀ e∈o.after.toList,Region.binds .any e=true→listed[e.on]? = some true:=by
 unfold Region.ready at h
 rw [List.mem_filter] at h
 obtain ⟨h1,h2⟩:=h
 simp only [yw,Bool.not_eq_true'] at h2
 have hi:i<ops.size:=by simpa using h1
 refine ⟨ops[i],Array.getElem?_eq_getElem hi,?_,fun e he hb=>?_⟩
 ·have h3:=h2.1
  rw [Array.getD_eq_getD_getElem?] at h3
  cases hl:listed[i]? with
  | none=>rw [hl] at h3;cases h3
  | some b=>rw [hl] at h3;cases b <;> first | rfl | cases h3
 ·have h3:=h2.2
  rw [Array.getElem?_eq_getElem hi] at h3
  simp only [Option.map_some,Option.getD_some] at h3
  have h4:=Array.all_eq_true'.1 h3 e (by simpa using he)
  rw [hb] at h4
  simp only [Bool.not_true,Bool.false_or] at h4
  rw [Array.getD_eq_getD_getElem?] at h4
  cases hl:listed[e.on]? with
  | none=>rw [hl] at h4;cases h4
  | some b=>rw [hl] at h4;cases b <;> first | rfl | cases h4
theorem zkm {listed:Array Bool} {i:Nat} {o:Oper} (ho:ops[i]? = some o) (hl:listed[i]? = some false) (h:∀ e∈o.after.toList,Region.binds .any e=true→listed[e.on]? = some true):i∈Region.ready .any ops listed:=by
 unfold Region.ready
 have hi:i<ops.size:=(Array.getElem?_eq_some_iff.1 ho).1
 rw [List.mem_filter]
 refine ⟨by simpa using hi,?_⟩
 simp only [yw,Bool.not_eq_true',ho,Option.map_some,Option.getD_some,Array.getD_eq_getD_getElem?,hl]
 refine ⟨trivial,Array.all_eq_true'.2 fun e he=>?_⟩
 cases hb:Region.binds .any e with
 | false=>rfl
 | true=>rw [h e (by simpa using he) hb];rfl
theorem zde (hG:Yj G) (hA:z0h G callF) (hC:z0u G codeF) {id:Nat} {ops:Array Oper} {Tr0:Fr} {S0:St} {r:Fr×St} (h0:z4g G.E callF codeF ops (z4M ops.toList []) ops.toList 0 ⟨S0.size,[],[],[],[]⟩ Tr0 S0=some r)
  (hc:(ops.toList.all fun o=>o.op.operands.toList.all z0V)=true) (hdr:Drawn ops) (rd':Option Nat) (n:Nat) {j:Inj} {a:Act} {w:World} (hs:Sim G j S0 w) (hT:TRel j Tr0 a.tmps) :
  r.2.low≤S0.low∧∀ Q:Exit→Act→World→Prop,(∀ a' w' j',a'.defers=a.defers→TRel j' r.1 a'.tmps→Sim G j' r.2 w'→Ext r.2.low j S0 w j' r.2 w'→Q .normal a' w')→(Code.region id ops true).wpIn (z0b rd') n G.P Q a w:=by
 obtain ⟨T,S,R,D,e1,e2,e3,hw,hr⟩:=zlF ops.toList 0 _ _ _ _ h0 (fun k=>by simp)
 rw [Nat.zero_add,Array.length_toList] at hw hr
 subst e1;subst e2
 have F:=zl8 hG hA hC hc hw e3 hs hT
 rw [hr]
 refine ⟨F.low_mono (yu _) (ym _),fun Q hQ=>wpIn_region_any hG.mixed ?_⟩
 have any:∀ (fuel:Nat) (listed:Array Bool) (a':Act) (w':World) (j':Inj),listed.size=ops.size→listed.toList.count false≤fuel→Cl ops (fun m=>listed[m]? = some true) →
   Inv G ops T S R j a w (fun m=>listed[m]? = some true) a' w' j'→wpAnyIn (z0b rd') n G.P .any ops Q fuel listed a' w':=by
  intro fuel
  induction fuel with
  | zero =>
   intro listed a' w' j' hsz hcnt hcl hI
   have hall:∀ m,m<ops.size→listed[m]? = some true:=by
    intro m hm
    have hlt:m<listed.size:=by omega
    rw [Array.getElem?_eq_getElem hlt]
    cases hb:listed[m] with
    | true=>rfl
    | false =>
     have:0<listed.toList.count false:=List.count_pos_iff.2 (by rw [←hb];simp)
     omega
   have hnil:Region.ready .any ops listed=[]:=by
    cases hrd:Region.ready .any ops listed with
    | nil=>rfl
    | cons i l =>
     obtain ⟨o,ho,hl,_⟩:=mem_ready (show i∈Region.ready .any ops listed by rw [hrd];simp)
     rw [hall i (Array.getElem?_eq_some_iff.1 ho).1] at hl;cases hl
   refine ⟨hnil,?_⟩
   obtain ⟨h1,h2,h3,h4⟩:=ziw F hs hT hall hI
   exact hQ a' w' j' h1 h2 h3 h4
  | succ fuel ih =>
   intro listed a' w' j' hsz hcnt hcl hI
   refine ⟨fun hnil=>?_,fun i hi=>?_⟩
   ·have hall:∀ m,m<ops.size→listed[m]? = some true:=by
     intro m
     induction m using Nat.strongRecOn with
     | _ m ihm =>
      intro hm
      have hlt:m<listed.size:=by omega
      have hg:=Array.getElem?_eq_getElem hlt
      cases hb:listed[m] with
      | true=>rw [hg,hb]
      | false =>
       have:m∈Region.ready .any ops listed:=zkm (Array.getElem?_eq_getElem hm) (by rw [hg,hb]) fun e he hbd=>by
        have:=hdr.edge m _ e (Array.getElem?_eq_getElem hm) he hbd
        exact ihm e.on this (by omega)
       rw [hnil] at this;cases this
    obtain ⟨h1,h2,h3,h4⟩:=ziw F hs hT hall hI
    exact hQ a' w' j' h1 h2 h3 h4
   ·obtain ⟨o,ho,hl,he⟩:=mem_ready hi
    have hilt:i<ops.size:=(Array.getElem?_eq_some_iff.1 ho).1
    have hil:i<listed.size:=by omega
    obtain ⟨ac,wc,jc,hK⟩:=zpx hG hA hC hc hw F hdr hs hT i (Nat.le_of_lt hilt) (fun m=>Bef ops m i) (zmk hdr.edge i) (fun m hm=>z1D hdr.edge hm)
    have hpB:∀ m,Bef ops m i→listed[m]? = some true:=by
     have hcl':Cl ops (fun m=>listed[m]? = some true∨m=i):=by
      intro k o' ho' hk e hee hb
      rcases hk with hk | hk
      ·exact .inl (hcl k o' ho' hk e hee hb)
      ·subst hk;rw [ho] at ho';cases ho';exact .inl (he e hee hb)
     intro m hm
     rcases z0C hm hcl' (.inr rfl) with h | h
     ·exact h
     ·have:=z1D hdr.edge hm;omega
    refine (zc2 hG hA hC hc hw F hdr hs hT.1 ho (p:=fun m=>listed[m]? = some true) (fun h=>by rw [hl] at h;cases h) hpB hcl hI hK rd' n).2 _ _ fun v' w2 j2 h=>?_
    have e:(fun m=>listed[m]? = some true∨m=i)=(fun m=>(listed.setIfInBounds i true)[m]? = some true):=by
     funext m
     apply propext
     rw [Array.getElem?_setIfInBounds]
     by_cases hm:i=m
     ·subst hm;simp [hil]
     ·rw [if_neg hm]
      exact ⟨fun h=>h.resolve_right (fun e=>hm e.symm),.inl⟩
    rw [e] at h
    refine ih _ _ _ _ (by simpa using hsz) ?_ ?_ h
    ·have hgl:listed.toList[i]'(by simpa using hil)=false:=by
      have:=hl
      rw [Array.getElem?_eq_getElem hil] at this
      simpa using this
     rw [Array.toList_setIfInBounds,List.count_set (by simpa using hil),hgl]
     show List.count false listed.toList - (if (false==false)=true then 1 else 0)+(if (true==false)=true then 1 else 0)≤fuel
     have e1:((false==false)=true)=True:=by simp
     have e2:((true==false)=true)=False:=by simp
     simp only [e1,e2,if_true,if_false]
     omega
    ·rw [←e]
     intro k o' ho' hk e2 hee hb
     rcases hk with hk | hk
     ·exact .inl (hcl k o' ho' hk e2 hee hb)
     ·subst hk;rw [ho] at ho';cases ho';exact .inl (he e2 hee hb)
 have hrep:∀ m,(Array.replicate ops.size false)[m]? ≠ some true:=fun m h=>by
  rw [Array.getElem?_replicate] at h
  split at h <;> cases h
 refine any ops.size (Array.replicate ops.size false) a _ j (by simp) ?_ (fun i o ho hi=>absurd hi (hrep i)) (zcd (fun m _=>hrep m) F hs hT rfl)
 simp
end
section
variable {G:Good} {callF:z1f} {codeF:z15}
def CodeW (F:Fence) (n:Nat) (P:Program) (m:Nat) (c:Code) (Q:Exit→Act→World→Prop) (a:Act) (w:World):Prop:=match c with
 | .loop b=>b.roundsIn F n P Q m a w
 | c=>c.wpIn F n P Q a w
theorem CodeW.wp {F:Fence} {n:Nat} {P:Program} {m:Nat} {c:Code} {Q:Exit→Act→World→Prop} {a:Act} {w:World} (h:CodeW F n P m c Q a w):c.wpIn F n P Q a w:=by
 cases c with
 | loop b=>exact wpIn_loop_rounds m h
 | _=>exact h
def SoundCodeR (G:Good) (codeF:z15):Prop:=∀ c rd T S r,codeF c rd T S=some r→z7P c=true→∃ m,
 ∀ n base j a w rd',RdRel j rd rd'→Sim G j S w→TRel j T a.tmps→base≤w.heap.size→Defs base j w a.defers→r.S.low≤S.low∧CodeW (z0b rd') n G.P m c (CPost G base j S w r) a w
theorem SoundCodeR.sound (h:SoundCodeR G codeF):z0u G codeF:=fun c rd T S r hr hc n base j a w rd' h1 h2 h3 h4 h5 =>
 let ⟨_,hm⟩:=h c rd T S r hr hc
 let ⟨h6,h7⟩:=hm n base j a w rd' h1 h2 h3 h4 h5
 ⟨h6,h7.wp⟩
theorem CPost.after {base:Nat} {j j1:Inj} {S:St} {w w1:World} {r1 r:Res} (hd:∀ b x,j b=some x→b<S.size) (h1:Ext r1.S.low j S w j1 r1.S w1) (hl:r.S.low≤r1.S.low) {e:Exit} {a':Act} {w':World} (h:CPost G base j1 r1.S w1 r e a' w'):CPost G base j S w r e a' w':=by
 obtain ⟨he,j2,h2,h3,h4,h5⟩:=h
 exact ⟨he,j2,h2,h1.trans hd h3 hl,h4,h5⟩
theorem CPost.same {base:Nat} {j:Inj} {S:St} {w:World} {r:Res} {e:LExit} {T:Fr} (hr:r=⟨e,T,S⟩) {a:Act} (hs:Sim G j S w) (hT:TRel j T a.tmps) (hD:Defs base j w a.defers):CPost G base j S w r (zqf e) a w:=by
 subst hr
 exact ⟨rfl,j,hs,Ext.refl _ _ _ _,hT,hD⟩
theorem zdf (hG:Yj G) (hA:z0h G callF) (hC:z0u G codeF) {id:Nat} {ops:Array Oper} {draw:Bool} {T:Fr} {S:St} {r:Res} (h0:z7M G.E callF codeF ops draw T S=some r) (hc:z7P (.region id ops draw)=true)
  (n base:Nat) {j:Inj} {a:Act} {w:World} (rd':Option Nat) (hs:Sim G j S w) (hT:TRel j T a.tmps) (hD:Defs base j w a.defers):r.S.low≤S.low∧(Code.region id ops draw).wpIn (z0b rd') n G.P (CPost G base j S w r) a w:=by
 obtain ⟨q,hq,h1⟩:=z8 h0
 have hr:r=⟨.normal,q.1,q.2⟩:=by cases h1;rfl
 simp only [z7P,yw,Bool.or_eq_true,Bool.not_eq_true'] at hc
 subst hr
 cases draw with
 | false =>
  obtain ⟨h2,h3⟩:=zfW hG hA hC (id:=id) hq hc.1 rd' n hs hT
  exact ⟨h2,h3 _ fun a' w' j' h4 h5 h6 h7=>⟨rfl,j',h6,h7,h5,by rw [h4];exact hD.ext h7⟩⟩
 | true =>
  obtain ⟨h2,h3⟩:=zde hG hA hC (id:=id) hq hc.1 (zcz (hc.2.resolve_left (by simp))) rd' n hs hT
  exact ⟨h2,h3 _ fun a' w' j' h4 h5 h6 h7=>⟨rfl,j',h6,h7,h5,by rw [h4];exact hD.ext h7⟩⟩
theorem zfX (hA:z0h G callF) {f:Operand} {ps:Array Tmp} {asg body:Code} {rd:Option Nat} {T:Fr} {S:St} {r:Res} (h0:z2B callF f ps.toList asg body rd T S=some r) (hc:z7P (.rangeFunc f ps asg body)=true)
  (n base:Nat) {j:Inj} {a:Act} {w:World} {rd':Option Nat} (hrd:RdRel j rd rd') (hs:Sim G j S w) (hT:TRel j T a.tmps) (hb:base≤w.heap.size) (hD:Defs base j w a.defers) :
  r.S.low≤S.low∧(Code.rangeFunc f ps asg body).wpIn (z0b rd') n G.P (CPost G base j S w r) a w:=by
 obtain ⟨hround,h1⟩:=ze h0
 obtain ⟨g,hg,h2⟩:=z8 h1
 obtain ⟨q,hq,h3⟩:=z8 h2
 obtain ⟨u,hu,h4⟩:=z8 h3
 obtain ⟨hbusy,h5⟩:=ze h4
 obtain ⟨ex,hex,h6⟩:=z8 h5
 have hr:r=⟨ex,T,q.2.put S.size (.loop .exhausted u.2.1 u.2.2.1 u.2.2.2.1 u.2.2.2.2.1 u.2.2.2.2.2)⟩:=by cases h6;rfl
 clear h0 h1 h2 h3 h4 h5 h6
 subst hr
 obtain ⟨fv,hfv,hg'⟩:=z8 hg
 simp only [z7P,yw] at hc
 have hfr:=hT.ev hc.1 hfv
 obtain ⟨⟨fnr,hf1,hf2,hf3⟩,hcall⟩:=hA _ _ _ _ _ hq
 -- the loop's record,laid into whatever memory
 have lay:∀ (fn:FuncId) (wa:World) (df:Nat),Sim G j S wa→∃ x,x.blk=wa.heap.size∧Sim G (j.ext S.size x) (S.new (.loop .ready none T ps.toList asg body)) (wa.alloc (.loop { state:=.ready,pending:=none,fn:=fn,tmps:=a.tmps,params:=ps,assign:=asg,body:=body,defers:=df })) ∧
   ∀ lo,Ext lo j S wa (j.ext S.size x) (S.new (.loop .ready none T ps.toList asg body)) (wa.alloc (.loop { state:=.ready,pending:=none,fn:=fn,tmps:=a.tmps,params:=ps,assign:=asg,body:=body,defers:=df })):=by
  intro fn wa df hsa
  obtain ⟨h1,h2⟩:=hsa.new ⟨wa.heap.size,0,0,0⟩ (o:=.loop .ready none T ps.toList asg body) (o':=.loop { state:=.ready,pending:=none,fn:=fn,tmps:=a.tmps,params:=ps,assign:=asg,body:=body,defers:=df }) rfl
   ⟨_,rfl,rfl,rfl,rfl,rfl,rfl,hT.mono (ext_le (hsa.fresh (ym _))),hc.2.1,hc.2.2⟩
  exact ⟨_,rfl,h1,h2⟩
 -- the call,and what is asked behind it
 have go:∀ (w1:World) (x:JB) (mark:List Deferred),Sim G (j.ext S.size x) (S.new (.loop .ready none T ps.toList asg body)) w1→(∀ lo,Ext lo j S w (j.ext S.size x) (S.new (.loop .ready none T ps.toList asg body)) w1) →
   Defs base (j.ext S.size x) w1 (mark++a.defers) →
   (q.2.put S.size (.loop .exhausted u.2.1 u.2.2.1 u.2.2.2.1 u.2.2.2.2.1 u.2.2.2.2.2)).low≤S.low ∧
   ∃ d f' args,(resolve a.eval (rangeCall f x.blk) 0).run G.P w1 = .ok d w1∧(invoke d.target d.args).run G.P w1 = .ok (.enter f' args) w1 ∧
    CallsIn (z0b rd') (n - 1) G.P f' args w1 (rangePost (z0b rd') n G.P x.blk (CPost G base j S w ⟨ex,T,q.2.put S.size (.loop .exhausted u.2.1 u.2.2.1 u.2.2.2.1 u.2.2.2.2.1 u.2.2.2.2.2)⟩) { a with defers:=mark++a.defers }):=by
  intro w1 x mark hs1 he1 hD1
  have hx:j.ext S.size x S.size=some x:=z1O _ _ _
  have hj:=(he1 0).sub
  cases hv:fv <;> rw [hv] at hg' hfr <;> first | (cases hg';done) | skip
  rename_i fn first cap
  cases fn <;> first | (cases hg';done) | skip
  rename_i gf
  cases hg'
  generalize hy:a.eval f=y at hfr
  cases hfr with
  | func hfn h1 h2 =>
   rename_i fn' first' cap'
   cases hfn
   have hargs:Yh (j.ext S.size x) (first.toList++([.func (.yield S.size) #[] #[]]++cap.toList)) ((first' ++ #[Value.func (.yield x.blk) #[] #[]])++cap').toList:=by
    simp only [Array.toList_append,List.append_assoc]
    exact (h1.mono hj).append (Yh.append (.cons (.func (.yield hx) .nil .nil) .nil) (h2.mono hj))
   obtain ⟨hlow,hcl⟩:=hcall (j.ext S.size x) ((first' ++ #[Value.func (.yield x.blk) #[] #[]])++cap') w1 hs1 hargs
   have hl2:(q.2.put S.size (.loop .exhausted u.2.1 u.2.2.1 u.2.2.2.1 u.2.2.2.2.1 u.2.2.2.2.2)).low≤q.2.low:=Nat.min_le_right _ _
   refine ⟨yn hl2 hlow,{ target:=.fn (.func gf) cap',args:=first' ++ #[Value.func (.yield x.blk) #[] #[]] },gf,(first' ++ #[Value.func (.yield x.blk) #[] #[]])++cap',?_,z6T hf1 hf2 hf3 _ _,z5Q rd' (Calls.mono hcl ?_)⟩
   ·simp only [resolve,rangeCall,hy,Deferred.ofValue]
    have em:Array.map a.eval #[Operand.const (Value.func (Fn.yield x.blk) #[] #[])] = #[Value.func (Fn.yield x.blk) #[] #[]]:=by simp [Act.eval]
    rw [em]
    rfl
   ·rintro e w2 ⟨v',j2,rfl,hv2,hs2,he2⟩
    have hx2:=he2.sub _ _ hx
    obtain ⟨L,hL,hst,hpd,hps,hasg,hbody,hTL,hc1,hc2,hget⟩:=z4x hs2 hx2 hu
    obtain ⟨hs3,he3⟩:=zar hs2 hx2 hu hL .exhausted u.2.1
    have he3':=he3 _ (Nat.min_le_left S.size q.2.low)
    have hLp:({ L with state:=.exhausted,pending:=u.2.1 }:Loop)={ L with state:=.exhausted }:=by rw [←hpd]
    rw [hLp] at hs3 he3'
    have hend:(Instr.endLoop x.blk).run G.P w2 = .ok u.2.1 (w2.putObj x.blk (.loop { L with state:=.exhausted })):=by
     have hnb:(L.state == .busy)=false:=by
      rw [hst]
      cases hq1:u.1 <;> rw [hq1] at hbusy <;> first | rfl | cases hbusy
     simp only [Instr.endLoop,Sem.run_bind,run_getLoop hL,Result.andThen_ok,hnb,Bool.false_eq_true,if_false,z5a _ hL,Sem.run_pure,hpd]
    have hall:Ext (q.2.put S.size (.loop .exhausted u.2.1 u.2.2.1 u.2.2.2.1 u.2.2.2.2.1 u.2.2.2.2.2)).low j S w j2 (q.2.put S.size (.loop .exhausted u.2.1 u.2.2.1 u.2.2.2.1 u.2.2.2.2.1 u.2.2.2.2.2)) (w2.putObj x.blk (.loop { L with state:=.exhausted })) :=
     ((he1 q.2.low).trans (fun b y hb=>(hs.dom b y hb).1) he2 (ym _)).trans (fun b y hb=>(hs.dom b y hb).1) he3' hl2
    have hT2:TRel j2 T a.tmps:=hT.mono (hj.trans he2.sub)
    have hD2:=(hD1.ext he2).ext he3'
    have post:CPost G base j S w ⟨ex,T,q.2.put S.size (.loop .exhausted u.2.1 u.2.2.1 u.2.2.2.1 u.2.2.2.2.1 u.2.2.2.2.2)⟩ (zqf ex) { a with defers:=mark++a.defers } (w2.putObj x.blk (.loop { L with state:=.exhausted })):=⟨rfl,j2,hs3,hall,hT2,hD2⟩
    refine ⟨u.2.1,_,hend,?_⟩
    cases hp:u.2.1 with
    | none =>
     rw [hp] at hex
     cases hex
     rw [hp] at post
     exact post
    | some c =>
     rw [hp] at hex post
     cases c <;> first | (cases hex;done) | skip
     ·cases hex;exact wpIn_exit post
     ·cases hex;exact wpIn_ret post
 cases rd with
 | none =>
  cases rd' with
  | some l=>exact hrd.elim
  | none =>
   have hwd:(w.alloc (.deferred (some []))).heap.size=w.heap.size+1:=Array.size_push _
   have hsd:Sim G j S (w.alloc (.deferred (some []))):=by
    refine ⟨fun b x hb=>⟨(hs.dom b x hb).1,by rw [hwd];have:=(hs.dom b x hb).2;omega⟩,fun b x o hb ho=>?_,hs.inj,hs.rom.world (fun b x hb=>by
     have:=(hs.dom b x hb).2
     show (w.heap.push _)[x.blk]? = _
     rw [Array.getElem?_push,if_neg (by omega)]) (fun _ h=>h)⟩
    obtain ⟨o',h1,h2⟩:=hs.objs b x o hb ho
    have:=(hs.dom b x hb).2
    refine ⟨o',?_,h2⟩
    show (w.heap.push _)[x.blk]? = _
    rw [Array.getElem?_push,if_neg (by omega)];exact h1
   have hed:∀ lo,Ext lo j S w j S (w.alloc (.deferred (some []))):=fun lo=>⟨Le.refl _,ym _,by rw [hwd];omega,fun _ _ h=>h,fun _ _ _=>rfl,fun c hc _=>by
    show (w.heap.push _)[c]? = _
    rw [Array.getElem?_push,if_neg (by omega)],(fun b x h h'=>by rw [h] at h';cases h'),(fun b h1 h2=>by omega),⟨rfl,rfl,rfl⟩⟩
   have hone:∀ fn,∃ x,x.blk=w.heap.size+1∧Sim G (j.ext S.size x) (S.new (.loop .ready none T ps.toList asg body)) ((w.alloc (.deferred (some []))).alloc (.loop { state:=.ready,pending:=none,fn:=fn,tmps:=a.tmps,params:=ps,assign:=asg,body:=body,defers:=w.heap.size })) ∧
     (∀ lo,Ext lo j S w (j.ext S.size x) (S.new (.loop .ready none T ps.toList asg body)) ((w.alloc (.deferred (some []))).alloc (.loop { state:=.ready,pending:=none,fn:=fn,tmps:=a.tmps,params:=ps,assign:=asg,body:=body,defers:=w.heap.size }))) ∧
     Defs base (j.ext S.size x) ((w.alloc (.deferred (some []))).alloc (.loop { state:=.ready,pending:=none,fn:=fn,tmps:=a.tmps,params:=ps,assign:=asg,body:=body,defers:=w.heap.size })) ([{ target:=.collected w.heap.size,args:=#[] }]++a.defers):=by
    intro fn
    obtain ⟨x,h1,h2,h3⟩:=lay fn (w.alloc (.deferred (some []))) w.heap.size hsd
    have h4:∀ lo,Ext lo j S w (j.ext S.size x) (S.new (.loop .ready none T ps.toList asg body)) ((w.alloc (.deferred (some []))).alloc (.loop { state:=.ready,pending:=none,fn:=fn,tmps:=a.tmps,params:=ps,assign:=asg,body:=body,defers:=w.heap.size })) :=
     fun lo=>(hed lo).trans (fun b y hb=>(hs.dom b y hb).1) (h3 lo) (ym _)
    refine ⟨x,by rw [h1,hwd],h2,h4,?_,hD.ext (h4 0)⟩
    refine ⟨w.heap.size,rfl,hb,?_,?_,?_⟩
    ·show ((w.heap.push _).push _)[w.heap.size]? = _
     rw [Array.getElem?_push,if_neg (by simp),Array.getElem?_push,if_pos rfl]
    ·intro b y hby e
     simp only [Inj.ext] at hby
     split at hby
     ·cases hby;rw [h1,hwd] at e;omega
     ·have:=(hs.dom b y hby).2;omega
    ·intro d' hd' e
     have:∀ ds,Defs base j w ds→∀ d∈ds,∃ r,d={ target:=.collected r,args:=#[] }∧r<w.heap.size:=by
      intro ds
      induction ds with
      | nil=>intro _ d hd;cases hd
      | cons d0 ds ih =>
       intro h d hd
       rcases List.mem_cons.1 hd with rfl | hd
       ·obtain ⟨r,h1,_,h2,_⟩:=h.1
        exact ⟨r,h1,(Array.getElem?_eq_some_iff.1 h2).1⟩
       ·exact ih h.2 d hd
     obtain ⟨r,h5,h6⟩:=this _ hD d' hd'
     rw [e] at h5
     injection h5 with h5
     injection h5 with h5
     omega
   refine ⟨?_,wpIn_rangeFunc fun fn _=>?_⟩
   ·obtain ⟨x,_,h1,h2,h3⟩:=hone 0
    exact (go _ x _ h1 h2 h3).1
   ·obtain ⟨x,hx,h1,h2,h3⟩:=hone fn
    obtain ⟨_,d,f',args,h4,h5,h6⟩:=go _ x _ h1 h2 h3
    rw [hx] at h4 h6
    refine ⟨w.heap.size+1,[{ target:=.collected w.heap.size,args:=#[] }],_,d,_,f',args,_,?_,h4,fun f' _=>z1o _ f',h5,(fun h=>by rw [z0Q] at h;cases h),h6⟩
    rw [z3C]
    simp only [Instr.enterLoop,Sem.run_bind,run_newObj,Result.andThen_ok,Sem.run_pure,World.alloc_eq,hwd]
 | some lb =>
  cases rd' with
  | none=>exact hrd.elim
  | some l =>
   obtain ⟨y,hy,hyl⟩:=hrd
   have hlo:∃ L,w.heap[l]? = some (.loop L):=by
    change (Option.rec false (fun _=>true) (ob (S.heap.get lb) z3e):Bool)=true at hround
    cases hq0:ob (S.heap.get lb) z3e with
    | none=>rw [hq0] at hround;cases hround
    | some q0 =>
     obtain ⟨L,hL,_⟩:=z4x hs hy hq0
     exact ⟨L,by rw [←hyl];exact hL⟩
   obtain ⟨L0,hL0⟩:=hlo
   refine ⟨?_,wpIn_rangeFunc fun fn _=>?_⟩
   ·obtain ⟨x,_,h1,h2⟩:=lay 0 w L0.defers hs
    exact (go _ x [] h1 h2 (hD.ext (h2 0))).1
   ·obtain ⟨x,hx,h1,h2⟩:=lay fn w L0.defers hs
    obtain ⟨_,d,f',args,h4,h5,h6⟩:=go _ x [] h1 h2 (hD.ext (h2 0))
    rw [hx] at h4 h6
    refine ⟨w.heap.size,[],_,d,_,f',args,_,?_,h4,fun f' _=>z1o _ f',h5,(fun h=>by rw [z0Q] at h;cases h),h6⟩
    rw [z3C]
    simp only [Instr.enterLoop,Sem.run_bind,run_getLoop hL0,run_newObj,Result.andThen_ok,Sem.run_pure,World.alloc_eq]
theorem z7i {T:Fr} {c:Operand} {t:Bool} {j:Inj} {a:Act} (hT:TRel j T a.tmps) (hc:z0V c=true) (h:ob (T.ev c) z3l=some t):a.eval c = .bool t:=by
 obtain ⟨v,hv,hb⟩:=z8 h
 have:=z5o hb;subst this
 exact (hT.ev hc hv).bool_inv
theorem z1E {P:Program} {b:Frame} {a:Act} {k:List Item} {cs:List Frame} {w:World} {c:Code}:step P (lone (b.atR a (.code (.scope c)::k)) cs w) = .next (lone (b.atR a (.code c :: .inScope c::k)) cs w) :=
 step_lone_go (by simp [stepG,stepG.exec,Frame.atR])
theorem zaf {P:Program} {b:Frame} {a:Act} {k:List Item} {cs:List Frame} {w:World} {c:Code}:step P (lone (b.atR a (.inScope c::k)) cs w) = .next (lone (b.atR a k) cs w) :=
 step_lone_go (by simp [stepG,stepG.exec,Frame.atR])
theorem zfE {F:Fence} {n:Nat} {P:Program} {Q:Exit→Act→World→Prop} {a:Act} {w:World} {c:Code} (h:c.wpIn F n P Q a w) (hq:∀ l a w,¬ Q (.goto l) a w):(Code.scope c).wpIn F n P Q a w:=by
 intro b k cs hro hb hr
 have h0:(lone (b.atR a (.code (.scope c)::k)) cs w).fenced P F:=fenced_calm hb hr rfl
 obtain ⟨e,a₁,w₁,hq1,harr⟩:=h b (.inScope c::k) cs hro hb hr
 cases e with
 | normal=>exact ⟨.normal,a₁,w₁,hq1,.head h0 z1E (StepsIn.trans harr (.one (fenced_calm hb hr rfl) zaf))⟩
 | exit id' =>
  have hx:exitTo id' (.inScope c::k)=exitTo id' k:=by simp [exitTo]
  exact ⟨.exit id',a₁,w₁,hq1,fun k' hk=>.head h0 z1E (harr.1 k' (by rw [hx];exact hk)),
   fun hr' hk=>let ⟨k₁,h1,h2⟩:=harr.2 hr' (by rw [hx];exact hk);⟨k₁,h1,.head h0 z1E h2⟩⟩
 | goto l=>exact absurd hq1 (hq l _ _)
 | ret=>exact ⟨_,a₁,w₁,hq1,.of_steps (.one h0 z1E) harr⟩
 | panic ch=>exact ⟨_,a₁,w₁,hq1,.of_steps (.one h0 z1E) harr⟩
 | outgrown=>exact ⟨_,a₁,w₁,hq1,.of_steps (.one h0 z1E) harr⟩
theorem zgn (hG:Yj G) (hA:z0h G callF) (hC:SoundCodeR G codeF):SoundCodeR G (z1C G.E callF codeF):=by
 intro c
 induction c with
 | skip =>
  intro rd T S r h0 _
  cases h0
  exact ⟨0,fun n base j a w rd' _ hs hT _ hD=>⟨ym _,wpIn_skip (CPost.same rfl hs hT hD)⟩⟩
 | label l =>
  intro rd T S r h0 _
  cases h0
  exact ⟨0,fun n base j a w rd' _ hs hT _ hD=>⟨ym _,wpIn_label (CPost.same rfl hs hT hD)⟩⟩
 | exit id =>
  intro rd T S r h0 _
  cases h0
  exact ⟨0,fun n base j a w rd' _ hs hT _ hD=>⟨ym _,wpIn_exit (CPost.same (e:=.exit id) rfl hs hT hD)⟩⟩
 | ret =>
  intro rd T S r h0 _
  cases h0
  exact ⟨0,fun n base j a w rd' _ hs hT _ hD=>⟨ym _,wpIn_ret (CPost.same (e:=.ret) rfl hs hT hD)⟩⟩
 | scope b ih =>
  intro rd T S r h0 hc
  obtain ⟨m,hm⟩:=ih rd T S r h0 hc
  refine ⟨0,fun n base j a w rd' hrd hs hT hb hD=>?_⟩
  obtain ⟨h2,h3⟩:=hm n base j a w rd' hrd hs hT hb hD
  refine ⟨h2,zfE h3.wp fun l a w h=>?_⟩
  obtain ⟨he,_⟩:=h
  cases hx:r.ex <;> rw [hx] at he <;> cases he
 | goto l=>intro rd T S r h0 _;cases h0
 | refuse why=>intro rd T S r h0 _;cases h0
 | region id ops draw =>
  intro rd T S r h0 hc
  exact ⟨0,fun n base j a w rd' _ hs hT _ hD=>zdf hG hA hC.sound h0 hc n base rd' hs hT hD⟩
 | rangeFunc f ps asg body _ _ =>
  intro rd T S r h0 hc
  exact ⟨0,fun n base j a w rd' hrd hs hT hb hD=>zfX hA h0 hc n base hrd hs hT hb hD⟩
 | cond c x y ihx ihy =>
  intro rd T S r h0 hc
  obtain ⟨t,ht,h1⟩:=z8 h0
  simp only [z7P,yw] at hc
  cases t with
  | true =>
   obtain ⟨m,hm⟩:=ihx rd T S r h1 hc.2.1
   refine ⟨0,fun n base j a w rd' hrd hs hT hb hD=>?_⟩
   obtain ⟨h2,h3⟩:=hm n base j a w rd' hrd hs hT hb hD
   exact ⟨h2,wpIn_cond_true (z7i hT hc.1 ht) h3.wp⟩
  | false =>
   obtain ⟨m,hm⟩:=ihy rd T S r h1 hc.2.2
   refine ⟨0,fun n base j a w rd' hrd hs hT hb hD=>?_⟩
   obtain ⟨h2,h3⟩:=hm n base j a w rd' hrd hs hT hb hD
   exact ⟨h2,wpIn_cond_false (z7i hT hc.1 ht) h3.wp⟩
 | seq x y ihx ihy =>
  intro rd T S r h0 hc
  obtain ⟨q,hq,h1⟩:=z8 h0
  simp only [z7P,yw] at hc
  obtain ⟨m,hm⟩:=ihx rd T S q hq hc.1
  cases hex:q.ex with
  | normal =>
   unfold zl at h1
   rw [hex] at h1
   obtain ⟨m2,hm2⟩:=ihy rd q.T q.S r h1 hc.2
   refine ⟨0,fun n base j a w rd' hrd hs hT hb hD=>?_⟩
   obtain ⟨h2,h3⟩:=hm n base j a w rd' hrd hs hT hb hD
   have hdom:=fun b x (hb:j b=some x)=>(hs.dom b x hb).1
   have hlow:r.S.low≤q.S.low:=by
    obtain ⟨e,a1,w1,_,j1,h4,h5,h6,h7⟩:=z7V h3.wp
    exact (hm2 n base j1 a1 w1 rd' (hrd.mono h5.sub) h4 h6 (yn hb h5.heap) h7).1
   refine ⟨yn hlow h2,wpIn_seq (wpIn_mono h3.wp ?_)⟩
   rintro e a1 w1 ⟨rfl,j1,h4,h5,h6,h7⟩
   rw [hex]
   refine wpIn_mono (hm2 n base j1 a1 w1 rd' (hrd.mono h5.sub) h4 h6 (yn hb h5.heap) h7).2.wp ?_
   exact fun e a2 w2 h=>h.after hdom h5 hlow
  | exit id =>
   unfold zl at h1
   rw [hex] at h1
   cases h1
   refine ⟨0,fun n base j a w rd' hrd hs hT hb hD=>?_⟩
   obtain ⟨h2,h3⟩:=hm n base j a w rd' hrd hs hT hb hD
   refine ⟨h2,wpIn_seq (wpIn_mono h3.wp ?_)⟩
   rintro e a1 w1 ⟨he,h4⟩
   have he':e = .exit id:=by rw [he,hex];rfl
   subst he'
   exact ⟨he,h4⟩
  | ret =>
   unfold zl at h1
   rw [hex] at h1
   cases h1
   refine ⟨0,fun n base j a w rd' hrd hs hT hb hD=>?_⟩
   obtain ⟨h2,h3⟩:=hm n base j a w rd' hrd hs hT hb hD
   refine ⟨h2,wpIn_seq (wpIn_mono h3.wp ?_)⟩
   rintro e a1 w1 ⟨he,h4⟩
   have he':e = .ret:=by rw [he,hex];rfl
   subst he'
   exact ⟨he,h4⟩
 | block id b ih =>
  intro rd T S r h0 hc
  obtain ⟨q,hq,h1⟩:=z8 h0
  obtain ⟨m,hm⟩:=ih rd T S q hq hc
  refine ⟨0,fun n base j a w rd' hrd hs hT hb hD=>?_⟩
  obtain ⟨h2,h3⟩:=hm n base j a w rd' hrd hs hT hb hD
  unfold z8r at h1
  cases hex:q.ex with
  | normal =>
   rw [hex] at h1;cases h1
   refine ⟨h2,wpIn_block (wpIn_mono h3.wp ?_)⟩
   rintro e a1 w1 ⟨he,h4⟩
   have he':e = .normal:=by rw [he,hex];rfl
   subst he'
   exact ⟨he,h4⟩
  | ret =>
   rw [hex] at h1;cases h1
   refine ⟨h2,wpIn_block (wpIn_mono h3.wp ?_)⟩
   rintro e a1 w1 ⟨he,h4⟩
   have he':e = .ret:=by rw [he,hex];rfl
   subst he'
   exact ⟨he,h4⟩
  | exit k =>
   rw [hex] at h1
   have hr:r=⟨bf (Nat.beq k id) .normal (.exit k),q.T,q.S⟩:=by cases h1;rfl
   subst hr
   refine ⟨h2,wpIn_block (wpIn_mono h3.wp ?_)⟩
   rintro e a1 w1 ⟨he,h4⟩
   have he':e = .exit k:=by rw [he,hex];rfl
   subst he'
   show if k=id then _ else _
   by_cases hk:k=id
   ·rw [if_pos hk]
    have:Nat.beq k id=true:=by rw [hk];exact Nat.beq_refl id
    rw [this]
    exact ⟨rfl,h4⟩
   ·rw [if_neg hk,z0B hk]
    exact ⟨rfl,h4⟩
 | loop b ih =>
  intro rd T S r h0 hc
  obtain ⟨q,hq,h1⟩:=z8 h0
  obtain ⟨m,hm⟩:=ih rd T S q hq hc
  cases hex:q.ex with
  | normal =>
   unfold zl at h1
   rw [hex] at h1
   obtain ⟨m2,hm2⟩:=hC (.loop b) rd q.T q.S r h1 hc
   refine ⟨m2+1,fun n base j a w rd' hrd hs hT hb hD=>?_⟩
   obtain ⟨h2,h3⟩:=hm n base j a w rd' hrd hs hT hb hD
   have hdom:=fun b x (hb:j b=some x)=>(hs.dom b x hb).1
   have hlow:r.S.low≤q.S.low:=by
    obtain ⟨e,a1,w1,_,j1,h4,h5,h6,h7⟩:=z7V h3.wp
    exact (hm2 n base j1 a1 w1 rd' (hrd.mono h5.sub) h4 h6 (yn hb h5.heap) h7).1
   refine ⟨yn hlow h2,wpIn_mono h3.wp ?_⟩
   rintro e a1 w1 ⟨rfl,j1,h4,h5,h6,h7⟩
   rw [hex]
   have h8:=(hm2 n base j1 a1 w1 rd' (hrd.mono h5.sub) h4 h6 (yn hb h5.heap) h7).2
   have hmono:∀ (m:Nat) (a2:Act) (w2:World),b.roundsIn (z0b rd') n G.P (CPost G base j1 q.S w1 r) m a2 w2→b.roundsIn (z0b rd') n G.P (CPost G base j S w r) m a2 w2:=by
    intro m
    induction m with
    | zero=>exact fun _ _ h=>h
    | succ m ihm =>
     intro a2 w2 h
     rw [roundsIn_succ] at h ⊢
     refine wpIn_mono h fun e a3 w3 h=>?_
     cases e with
     | normal=>exact ihm a3 w3 h
     | exit k=>exact CPost.after hdom h5 hlow h
     | goto k=>exact CPost.after hdom h5 hlow h
     | ret=>exact CPost.after hdom h5 hlow h
     | panic k=>exact CPost.after hdom h5 hlow h
     | outgrown=>exact CPost.after hdom h5 hlow h
   exact hmono m2 a1 w1 h8
  | exit id =>
   unfold zl at h1
   rw [hex] at h1
   cases h1
   refine ⟨1,fun n base j a w rd' hrd hs hT hb hD=>?_⟩
   obtain ⟨h2,h3⟩:=hm n base j a w rd' hrd hs hT hb hD
   refine ⟨h2,wpIn_mono h3.wp ?_⟩
   rintro e a1 w1 ⟨he,h4⟩
   have he':e = .exit id:=by rw [he,hex];rfl
   subst he'
   exact ⟨he,h4⟩
  | ret =>
   unfold zl at h1
   rw [hex] at h1
   cases h1
   refine ⟨1,fun n base j a w rd' hrd hs hT hb hD=>?_⟩
   obtain ⟨h2,h3⟩:=hm n base j a w rd' hrd hs hT hb hD
   refine ⟨h2,wpIn_mono h3.wp ?_⟩
   rintro e a1 w1 ⟨he,h4⟩
   have he':e = .ret:=by rw [he,hex];rfl
   subst he'
   exact ⟨he,h4⟩
theorem zhz {j:Inj}:∀ (vs vs':List Value) (i:Nat) (t:Tr Value) (pre:List Value),Yh j vs vs'→pre.length=i→(∀ k v,t.get k=some v→∃ v',pre[k]? = some v'∧Yf j v v') →
  ∀ k v,(z10 vs i t).get k=some v→∃ v',(pre++vs')[k]? = some v'∧Yf j v v'
 | [],vs',i,t,pre,h,_,ht,k,v,hk=>by
  cases h
  obtain ⟨v',h1,h2⟩:=ht k v hk
  exact ⟨v',by simpa using h1,h2⟩
 | u::us,vs',i,t,pre,h,hp,ht,k,v,hk=>by
  cases h with
  | cons hu hus =>
   rename_i u' us'
   have:=zhz us us' (i+1) (t.set i u) (pre++[u']) hus (by simp [hp]) (fun k v hk=>by
    rw [Tr.get_set] at hk
    split at hk
    ·rename_i e;cases hk;subst e;exact ⟨u',by simp [←hp],hu⟩
    ·obtain ⟨v',h1,h2⟩:=ht k v hk
     have:=(List.getElem?_eq_some_iff.1 h1).1
     exact ⟨v',by rw [List.getElem?_append_left this];exact h1,h2⟩) k v hk
   simpa using this
def leftOf (tmps:Array Value) (r:ResultVar):Sem Value:=match r with
 | .tmp t=>pure (tmps.getD t undef)
 | .cell c t=>do loadVar t (←asAddr (tmps.getD c undef))
theorem z8i (hG:Yj G) {T:Fr} {S:St} {j:Inj} {a:Act} {w:World} (hs:Sim G j S w) (hT:TRel j T a.tmps):∀ (l:List ResultVar) (vs:List Value),z18 G.E T S l=some vs →
  ∃ vs',(l.mapM (leftOf a.tmps)).run G.P w = .ok vs' w∧Yh j vs vs'
 | [],vs,h=>by cases h;exact ⟨[],rfl,.nil⟩
 | r::l,vs,h=>by
  obtain ⟨v,hv,h1⟩:=z8 h
  obtain ⟨us,hus,h2⟩:=z8 h1
  cases h2
  obtain ⟨vs',h3,h4⟩:=z8i hG hs hT l us hus
  have hone:∃ v',(leftOf a.tmps r).run G.P w = .ok v' w∧Yf j v v':=by
   cases r with
   | tmp t =>
    obtain ⟨v',h5,h6⟩:=hT.2 t v hv
    exact ⟨v',by simp [leftOf,Array.getD_eq_getD_getElem?,h5],h6⟩
   | cell c t =>
    obtain ⟨p,hp,h5⟩:=z8 hv
    obtain ⟨u,hu,h6⟩:=z8 hp
    have:=z1e h6;subst this
    obtain ⟨u',h7,h8⟩:=hT.2 c _ hu
    obtain ⟨p',rfl,h9⟩:=h8.ptr_inv
    obtain ⟨v',h10,h11⟩:=hs.load_var hG h9 h5
    exact ⟨v',by simp [leftOf,Array.getD_eq_getD_getElem?,h7,asAddr,h10],h11⟩
  obtain ⟨v',h5,h6⟩:=hone
  refine ⟨v'::vs',?_,.cons h6 h4⟩
  rw [List.mapM_cons,Sem.run_bind,h5]
  simp only [Result.andThen_ok,Sem.run_bind,h3,Sem.run_pure]
theorem znm {j:Inj} {vs vs':List Value} (h:Yh j vs vs'):Yf j (zkG vs) (if h:vs'.toArray.size=1 then vs'.toArray[0] else .tuple vs'.toArray):=by
 cases h with
 | nil=>exact .tuple .nil
 | cons h1 h2 =>
  cases h2 with
  | nil=>exact h1
  | cons h3 h4 =>
   have:∀ (v1 v2:Value) (l:List Value),zkG (v1::v2::l) = .tuple (v1::v2::l).toArray:=fun _ _ _=>rfl
   rw [this,dif_neg (by simp)]
   exact .tuple (.cons h1 (.cons h3 h4))
theorem z9w {P:Program} {r:Nat} {w:World} (h:w.heap[r]? = some (.deferred (some []))):(Instr.takeDeferred r).run P w = .ok [] (w.putObj r (.deferred none)):=by
 simp [Instr.takeDeferred,getObj,setObj,Sem.run,h,World.putObj,bind,Sem.bind,pure]
theorem z8B (hG:Yj G) {F:Fence} {n:Nat} {fn:Func} {base:Nat} {j j':Inj} {S S':St} {w0:World} {lo:Nat} {T:Fr} {tmps:Array Value} {vs:List Value} (hres:z18 G.E T S' fn.results.toList=some vs) (hT:TRel j' T tmps) (hb:w0.heap.size≤base) :
  ∀ (ds:List Deferred) (w:World),Defs base j' w ds→Sim G j' S' w→Ext lo j S w0 j' S' w→LeavesInM F n G.P fn tmps (fun e w'=>∃ v' j',e = .returned v'∧Yf j' (zkG vs) v'∧Sim G j' S' w'∧Ext lo j S w0 j' S' w') ds .returning w
 | [],w,_,hs,he=>by
  obtain ⟨vs',h1,h2⟩:=z8i (a:={ tmps:=tmps,defers:=[] }) hG hs hT fn.results.toList vs hres
  refine ⟨_,?_,_,j',rfl,znm h2,hs,he⟩
  unfold results
  rw [Sem.run_bind,Array.mapM_eq_mapM_toList,Sem.run_map]
  show ((Sem.run G.P (List.mapM (leftOf tmps) fn.results.toList) w).andThen _).andThen _=_
  rw [show Sem.run G.P (List.mapM (leftOf tmps) fn.results.toList) w=_ from h1]
  rfl
 | d::ds,w,⟨⟨r,h1,h2,h3,h4,h5⟩,hd⟩,hs,he=>by
  have hlt:r<w.heap.size:=(Array.getElem?_eq_some_iff.1 h3).1
  refine ⟨by simp,.inl ⟨r,_,by rw [h1],z9w h3,z8B hG hres hT hb ds _ ?_ ?_ ?_⟩⟩
  ·have key:∀ ds,Defs base j' w ds→(∀ d'∈ds,d'≠d)→Defs base j' (w.putObj r (.deferred none)) ds:=by
    intro ds
    induction ds with
    | nil=>exact fun _ _=>trivial
    | cons d' ds ih =>
     rintro ⟨⟨r',h6,h7,h8,h9,h10⟩,hd'⟩ hne
     refine ⟨⟨r',h6,h7,?_,h9,h10⟩,ih hd' fun d'' hd''=>hne d'' (by simp [hd''])⟩
     have:r'≠r:=fun e=>hne d' (by simp) (by rw [h6,h1,e])
     rw [World.putObj_heap_other this];exact h8
   exact key ds hd h5
  ·refine ⟨fun b x hb=>⟨(hs.dom b x hb).1,by rw [World.putObj_size];exact (hs.dom b x hb).2⟩,fun b x o hb ho=>?_,hs.inj,hs.rom.world (fun b x hb=>World.putObj_heap_other (h4 b x hb)) (fun _ h=>h)⟩
   rw [World.putObj_heap_other (h4 b x hb)]
   exact hs.objs b x o hb ho
  ·refine ⟨he.sub,he.size,by rw [World.putObj_size];exact he.heap,he.dead,he.lfr,fun c hc hf=>?_,he.new,he.all,he.io⟩
   rw [World.putObj_heap_other (by omega)]
   exact he.fr c hc hf
theorem zdB {j:Inj} {v v':Value} (h:Yf j v v') (hl:zii v=true):v'=v:=by
 cases h <;> first | rfl | (simp [zii] at hl)
theorem z8I:∀ {l:List Value} {zs:List Int},z5K l=some zs→l=zs.map (.int .i64)
 | [],zs,h=>by cases h;rfl
 | v::l,zs,h=>by
  change ob (zdJ v) (fun n=>ob (z5K l) fun l=>some (n::l))=some zs at h
  obtain ⟨n,h0,h⟩:=z8 h
  obtain ⟨r,h1,h2⟩:=z8 h
  cases h2
  unfold zdJ at h0
  split at h0
  ·cases h0
   rw [z8I h1];rfl
  ·cases h0
theorem zfP {j:Inj} {S:St} {w:World} {f:FuncId} {args:List Value} {args':Array Value} {v:Value} {S':St} (h2:∀ p cap w,Calls G.P f #[.slice p 0 cap] w fun e w'=>e = .returned (.tuple #[])∧w'=w) (h3:zjL G.P f)
  (hs:Sim G j S w) (ha:Yh j args args'.toList) (h:zfQ args S=some (v,S')):S'.low≤S.low∧Calls G.P f args' w (zgC G j S w v S'):=by
 unfold zfQ at h
 split at h
 case h_2=>cases h
 rename_i a n c
 have hargs:∃ u,args' = #[u]∧Yf j (.slice a n c) u:=by
  have hx:Yh j [.slice a n c] args'.toList:=ha
  cases hx':args'.toList with
  | nil=>rw [hx'] at hx;cases hx
  | cons u l =>
   rw [hx'] at hx
   cases hx with
   | cons q1 q2 =>
    cases q2
    exact ⟨u,by rw [←Array.toArray_toList (xs:=args'),hx'],q1⟩
 obtain ⟨u,rfl,hu⟩:=hargs
 cases hn:Nat.beq n 0 with
 | true =>
  rw [hn] at h
  cases h
  have hn0:=zm hn
  have hu2:∃ p cap,u = .slice p 0 cap:=by
   cases hu with
   | nilSlice=>exact ⟨_,_,rfl⟩
   | slice _=>exact ⟨_,_,by rw [hn0]⟩
  obtain ⟨p,cap,rfl⟩:=hu2
  refine ⟨ym _,(h2 p cap w).mono ?_⟩
  rintro e w' ⟨rfl,rfl⟩
  exact ⟨_,j,rfl,.tuple .nil,hs,Ext.refl _ _ _ _⟩
 | false =>
  rw [hn] at h
  cases a with
  | none=>cases h
  | some ad =>
   change ob (S.cells ad.block) _=_ at h
   obtain ⟨cs,k1,h⟩:=z8 h
   obtain ⟨k2,h⟩:=ze h
   obtain ⟨zs,k3,h⟩:=z8 h
   obtain ⟨c',k4,h⟩:=z8 h
   cases h
   obtain ⟨l,k5,k6⟩:=z8 k3
   have k7:=z8I k6
   have k2:=z0w k2
   have hn0:n≠0:=fun e=>by subst e;cases hn
   have hlen:zs.length=n:=by
    have h4:=congrArg List.length k7
    rw [List.length_map] at h4
    obtain ⟨k8,k9⟩:=ze k5
    cases k9
    have k8:ad.off+n≤cs.1.length:=zF k8
    rw [List.length_take,List.length_drop] at h4
    omega
   have hcut:ad.off+n≤cs.1.length∧(cs.1.drop ad.off).take n=zs.map (.int .i64):=by
    obtain ⟨k8,k9⟩:=ze k5
    cases k9
    exact ⟨zF k8,k7⟩
   cases hu with
   | slice hu =>
    rename_i a' cc
    obtain ⟨x,hx,hb,hsp,hnc,_,_,hoff⟩:=hu
    have hcc:cc≠0:=by omega
    have hoff:=(hoff.resolve_left hcc).1
    have ea:a'=⟨x.blk,ad.off+x.delta,none⟩:=by
     obtain ⟨b1,o1,s1⟩:=a'
     have e1:b1=x.blk:=hb hcc
     have e2:s1=none:=hsp hcc
     have e3:o1=ad.off+x.delta:=hoff
     rw [e1,e2,e3]
    subst ea
    have hheap:=z1J k1
    obtain ⟨o',m1,m2⟩:=hs.objs _ _ _ hx hheap
    obtain ⟨cm,em,rfl,m3,m4,m5,m6⟩:=m2
    have hlow:(S.put ad.block (.cells c' cs.2)).low≤S.low:=Nat.min_le_right _ _
    refine ⟨hlow,?_⟩
    have hcell:∀ i,i<zs.length→cm[ad.off+x.delta+i]? = some (.int .i64 (zs.getD i 0)):=by
     intro i hi
     have h6:cs.1[ad.off+i]? = some (.int .i64 (zs.getD i 0)):=by
      have h7:=congrArg (fun l=>l[i]?) hcut.2
      simp only [List.getElem?_take,List.getElem?_drop,List.getElem?_map] at h7
      rw [if_pos (by omega)] at h7
      rw [h7,List.getElem?_eq_getElem hi,List.getD_eq_getElem?_getD,List.getElem?_eq_getElem hi];rfl
     obtain ⟨v',h8,h9⟩:=m6 _ _ h6
     have:=zdB h9 rfl
     subst this
     rw [←h8];congr 1;omega
    have hc:=h3 x.blk (ad.off+x.delta) cc zs w cm em (by omega) m1 (by omega) hcell
    rw [hlen] at hc
    refine hc.mono ?_
    rintro e w' ⟨rfl,hio,g1,g2,cm',g3,g4,g5⟩
    have hl:live S ad.block:=⟨_,hheap,by simp⟩
    have hpaste:ad.off+n≤cs.1.length∧c'=cs.1.take ad.off++(z6r zs).map (.int .i64)++cs.1.drop (ad.off+n):=by
     obtain ⟨q1,q2⟩:=ze k4
     cases q2
     have:((z6r zs).map (Value.int .i64)).length=n:=by rw [List.length_map,z6r,List.length_mergeSort,hlen]
     rw [this] at q1 ⊢
     exact ⟨zF q1,rfl⟩
    have hsl:(z6r zs).length=n:=by rw [z6r,List.length_mergeSort,hlen]
    have hc'len:c'.length=cs.1.length:=by
     rw [hpaste.2]
     simp only [List.length_append,List.length_take,List.length_drop,List.length_map,hsl]
     have:=hpaste.1
     omega
    have horel:ORel G j x (.cells c' cs.2) (.cells cm' em (0,0)):=by
     refine ⟨cm',em,rfl,by rw [g4,m3],by rw [hc'len];exact m4,m5,fun i v hv=>?_⟩
     have hi:i<cs.1.length:=by
      rw [←hc'len];exact (List.getElem?_eq_some_iff.1 hv).1
     rw [g5 _ (by omega)]
     rw [hpaste.2] at hv
     by_cases h1:i<ad.off
     ·rw [if_neg (by omega)]
      rw [List.append_assoc,List.getElem?_append_left (by rw [List.length_take];omega),List.getElem?_take,if_pos h1] at hv
      exact m6 i v hv
     ·by_cases h2:i<ad.off+n
      ·rw [if_pos (by omega)]
       rw [List.append_assoc,List.getElem?_append_right (by rw [List.length_take];omega),List.length_take,show min ad.off cs.1.length=ad.off by have:=hpaste.1;omega,List.getElem?_append_left (by rw [List.length_map,hsl];omega),List.getElem?_map,
        List.getElem?_eq_getElem (by omega)] at hv
       cases hv
       refine ⟨_,rfl,?_⟩
       rw [show x.delta+i - (ad.off+x.delta)=i - ad.off by omega,List.getD_eq_getElem?_getD,List.getElem?_eq_getElem (by omega)]
       exact .int _ _
      ·rw [if_neg (by omega)]
       rw [List.getElem?_append_right (by rw [List.length_append,List.length_take,List.length_map,hsl];omega),List.getElem?_drop,List.length_append,List.length_take,List.length_map,hsl] at hv
       refine m6 i v ?_
       rw [←hv];congr 1
       have:=hpaste.1
       omega
    -- the same memory but for the block: in two steps,the block,and what was added
    have hsim3:Sim G j (S.put ad.block (.cells c' cs.2)) w'∧∀ lo,lo≤ad.block→Ext lo j S w j (S.put ad.block (.cells c' cs.2)) w':=by
     have hlive:∀ c,live (S.put ad.block (.cells c' cs.2)) c→live S c:=fun c hv=>by
      obtain ⟨p,hp,hd⟩:=hv
      rw [get_put] at hp
      by_cases e:c=ad.block
      ·rw [e];exact hl
      ·rw [if_neg e] at hp;exact ⟨p,hp,hd⟩
     have key:∀ lo,lo≤ad.block→Ext lo j S w j (S.put ad.block (.cells c' cs.2)) w':=fun lo hlo =>
      ⟨Le.refl j,ym _,g1,fun c _ hv=>hlive c hv,fun c _ hc=>by rw [get_put,if_neg (by omega)],fun c hc hf=>g2 c hc fun e=>hf ad.block x hx hlo hl e.symm,(fun c y hc hn=>by rw [hc] at hn;cases hn),(fun b h1 h2=>by
       have h3:b<S.size:=h2
       omega),hio⟩
     refine ⟨⟨fun c y hc=>⟨(hs.dom c y hc).1,yo (hs.dom c y hc).2 g1⟩,fun c y p hc hp=>?_,fun c d y z hc hd lc ld e=>hs.inj c d y z hc hd (hlive c lc) (hlive d ld) e,hs.rom.ext hs.dom (key 0 (yu _))⟩,key⟩
     rw [get_put] at hp
     by_cases e:c=ad.block
     ·subst e
      rw [if_pos rfl] at hp;cases hp
      rw [hx] at hc;cases hc
      exact ⟨_,g3,horel⟩
     ·rw [if_neg e] at hp
      have hlt:=(hs.dom c y hc).2
      cases hp':p with
      | dead=>exact ⟨w'.heap[y.blk]'(by omega),by rw [Array.getElem?_eq_getElem],trivial⟩
      | _ =>
       all_goals
        obtain ⟨p',q1,q2⟩:=hs.objs c y p hc hp
        refine ⟨p',?_,hp' ▸ q2⟩
        rw [g2 _ hlt (fun e'=>e (hs.inj c ad.block y x hc hx ⟨p,hp,by rw [hp'];simp⟩ hl e')),q1]
    exact ⟨_,j,rfl,.tuple .nil,hsim3.1,hsim3.2 _ (Nat.min_le_left _ _)⟩
section
variable {j:Inj} {S S':St} {w:World}
theorem zkY {sz i:Nat} {old old' new new':List Value} (h:Yh j old old') (h2:Yh j new new'):Yh j (z6D sz i old new) (z6D sz i old' new') :=
 ((h.take _).append h2).append (h.drop _)
theorem z4A {sz i n:Nat} {old new:List Value} (h:old.length=n*sz) (h2:new.length=sz) (hi:i≤n):(z6D sz i old new).length=(n+1)*sz:=by
 unfold z6D
 have:i*sz≤n*sz:=Nat.mul_le_mul_right _ hi
 rw [List.length_append,List.length_append,List.length_take,List.length_drop,h,h2,Nat.add_mul]
 omega
theorem zan {x:JB} {rc:Array Value} {cs old:List Value} {off off' k:Nat} (hrel:∀ (i:Nat) (v:Value),cs[i]? = some v→∃ v':Value,rc[x.delta+i]? = some v'∧Yf j v v') (hc:cut cs off k=some old) (ho:off'=off+x.delta) :
  ∃ old':List Value,Yh j old old'∧(∀ q v,old'[q]? = some v→rc[off'+q]? = some v)∧old'.length=k:=by
 obtain ⟨h1,h2⟩:=z3E hc
 have hlen:old.length=k:=by rw [h2,List.length_take,List.length_drop];omega
 have hget:∀ (q:Nat) (v:Value),old[q]? = some v→∃ v':Value,rc[off'+q]? = some v'∧Yf j v v':=fun q v hq=>by
  rw [h2,List.getElem?_take] at hq
  split at hq
  ·rw [List.getElem?_drop] at hq
   obtain ⟨v',k1,k2⟩:=hrel _ v hq
   refine ⟨v',?_,k2⟩
   rw [ho,show off+x.delta+q=x.delta+(off+q) by omega];exact k1
  ·cases hq
 have hsz:∀ q,q<k→off'+q<rc.size:=fun q hq=>by
  obtain ⟨v',k1,_⟩:=hget q _ (List.getElem?_eq_getElem (by omega))
  exact (Array.getElem?_eq_some_iff.1 k1).1
 have hl2:((rc.toList.drop off').take k).length=k:=by
  rw [List.length_take,List.length_drop,Array.length_toList]
  rcases Nat.eq_zero_or_pos k with e | e
  ·omega
  ·have:=hsz (k - 1) (by omega);omega
 have hg2:∀ q,q<k→((rc.toList.drop off').take k)[q]? = rc[off'+q]? :=fun q hq=>by
  rw [List.getElem?_take,if_pos hq,List.getElem?_drop,Array.getElem?_toList]
 refine ⟨(rc.toList.drop off').take k,z7n (by rw [hlen,hl2]) fun q v hq=>?_,fun q v hq=>?_,hl2⟩
 ·have hqk:q<k:=by have:=(List.getElem?_eq_some_iff.1 hq).1;omega
  obtain ⟨v',k1,k2⟩:=hget q v hq
  exact ⟨v',by rw [hg2 q hqk];exact k1,k2⟩
 ·have hqk:q<k:=by have:=(List.getElem?_eq_some_iff.1 hq).1;omega
  rw [hg2 q hqk] at hq
  exact hq
theorem zak {l l':List Value} (h:Yh j l l') (hs:l.all scalar=true):∀ v∈l',v.oneCell'=true:=by
 intro v' hv'
 obtain ⟨i,hi⟩:=List.mem_iff_getElem?.1 hv'
 have hil:i<l.length:=by have:=(List.getElem?_eq_some_iff.1 hi).1;have:=h.length;omega
 obtain ⟨u,hu,hr⟩:=h.get (List.getElem?_eq_getElem hil)
 rw [hi] at hu;cases hu
 rw [hr.scalar]
 exact List.all_eq_true.1 hs _ (List.getElem_mem hil)
theorem znp (hs:Sim G j S w) {elem:TypeId} {e:LTy} (he:G.E.ti.get elem=some e) {l l':List Value} (hl:Yh j l l') {k g:Nat} (hk:l.length=k*e.size) {row:Array Value} {w':World} (hg:k≤g) (hio:SameIo w w') (g1:w'.heap=w.heap.push (.cells row elem (0,0))) (g2:g*e.size≤row.size) (g3:∀ (q:Nat) (v:Value),l'[q]? = some v→row[q]? = some v) :
  ∃ j',Yf j' (.slice (some ⟨S.size,0,some 0⟩) k k) (.slice (some ⟨w.heap.size,0,none⟩) k g)∧Sim G j' (S.new (.cells l elem)) w'∧∀ lo,Ext lo j S w j' (S.new (.cells l elem)) w':=by
 have hw:w'=World.alloc { w' with heap:=w.heap } (.cells row elem):=by
  rw [←World.alloc_eq]
  cases w'
  dsimp only at g1 ⊢
  rw [g1]
 have hlen:l.length≤row.size:=by
  rw [hk]
  exact yn (Nat.mul_le_mul_right _ hg) g2
 have hio0:SameIo w { w' with heap:=w.heap }:=hio
 obtain ⟨h5,h6⟩:=(hs.heap_eq (w':={ w' with heap:=w.heap }) rfl).new ⟨w.heap.size,0,row.size,e.size⟩ (o:=.cells l elem) (o':=.cells row elem (0,0)) rfl (by
  refine ⟨row,elem,rfl,rfl,by show 0+_≤row.size;omega,fun t ht=>by rw [he] at ht;cases ht;rfl,?_⟩
  intro q u hq
  obtain ⟨u',k1,k2⟩:=hl.get hq
  exact ⟨u',by show row[0+q]? = some u';rw [Nat.zero_add];exact g3 q u' k1,k2.mono (ext_le (hs.fresh (ym _)))⟩)
 rw [←hw] at h5 h6
 exact ⟨_,z3r _ _ _ _ _ ⟨w.heap.size,0,row.size,e.size⟩ rfl rfl g2 hg,h5,fun lo=>(h6 lo).heap_eq rfl hio0⟩
theorem z9O {f:FuncId} {elem:TypeId} {v:Value} {base:Option Addr} {ok:Bool} {c m m' vc:Nat} {i:Int} {va v':Addr} {cv0:Nat} (hI:∀ e,G.E.ti.get elem=some e→zqm G.P f elem e.size)
  (hs:Sim G j S w) (hv:SRel j va v' m cv0 vc) (h:zot G.E elem ok c i va m S=some (v,S')):S'.low≤S.low∧Calls G.P f #[.slice base 0 0,.int .i64 i,.slice (some v') m vc] w (zgC G j S w v S'):=by
 obtain ⟨e,he,h⟩:=z8 h
 obtain ⟨hc,h⟩:=ze h
 obtain ⟨cv,hcv,h⟩:=z8 h
 obtain ⟨new,hnew,h⟩:=z8 h
 obtain ⟨hsc,h⟩:=ze h
 cases h
 simp only [yw] at hc
 obtain ⟨_,_,c3,c4,_⟩:=hc
 have c3:=zm c3
 have c4:=of_decide_eq_true c4
 subst c3 c4
 obtain ⟨y,hy,hvb,hvsp,hvn,_,_,hvd⟩:=hv
 have hvb:=hvb (by omega)
 have hvsp:=hvsp (by omega)
 obtain ⟨hvoff,_⟩:=hvd.resolve_left (by omega)
 obtain ⟨vr,ve,hvrow,_,_,_,hvrel⟩:=hs.row hy hcv
 obtain ⟨new',hn1,hn2,hn3⟩:=zan (off':=v'.off) hvrel hnew hvoff
 have ev:v'=⟨y.blk,v'.off,none⟩:=by rw [←hvb,←hvsp]
 refine ⟨ym _,?_⟩
 rw [ev]
 refine (hI e he base y.blk v'.off vc new' w vr ve hn3 hvrow hn2 (zak hn1 hsc)).mono ?_
 rintro ex w' ⟨g,row,hg,rfl,hio,g1,g2,g3⟩
 obtain ⟨j',k1,k2,k3⟩:=znp hs he hn1 (k:=1) (by rw [hn1.length,hn3,Nat.one_mul]) hg hio g1 g2 g3
 exact ⟨_,j',rfl,k1,k2,k3 _⟩
theorem zix {f:FuncId} {elem:TypeId} {args:List Value} {args':Array Value} {v:Value} (hI:∀ e,G.E.ti.get elem=some e→zom G.P f elem e.size∧zqm G.P f elem e.size)
  (hs:Sim G j S w) (ha:Yh j args args'.toList) (h:zm1 G.E elem args S=some (v,S')):S'.low≤S.low∧Calls G.P f args' w (zgC G j S w v S'):=by
 unfold zm1 at h
 split at h
 case h_3=>cases h
 ·rename_i n c i va m cv0
  have hargs:∃ v' vc,args' = #[.slice none 0 0,.int .i64 i,.slice (some v') m vc]∧SRel j va v' m cv0 vc:=by
   have hx:Yh j [.slice none n c,.int .i64 i,.slice (some va) m cv0] args'.toList:=ha
   cases hx':args'.toList with
   | nil=>rw [hx'] at hx;cases hx
   | cons u l =>
    rw [hx'] at hx
    cases hx with
    | cons q1 q2 =>
     cases q2 with
     | cons q3 q4 =>
      cases q4 with
      | cons q5 q6 =>
       cases q6
       cases q1
       cases q3
       cases q5 with
       | slice k2=>exact ⟨_,_,by rw [←Array.toArray_toList (xs:=args'),hx'],k2⟩
  obtain ⟨v',vc,rfl,hv⟩:=hargs
  exact z9O (m':=m) (fun e he=>(hI e he).2) hs hv h
 rename_i a n c i va m cv0
 cases hn0:Nat.beq n 0 with
 | true =>
  rw [hn0] at h
  have h:zot G.E elem (Option.isNone a.spot) c i va m S=some (v,S'):=h
  have hn0:=zm hn0
  subst hn0
  have hcz:c=0∧a.spot=none:=by
   obtain ⟨e,_,h2⟩:=z8 h
   obtain ⟨hc,_⟩:=ze h2
   simp only [yw] at hc
   exact ⟨zm hc.2.1,Option.isNone_iff_eq_none.1 hc.1⟩
  have hargs:∃ a' v' vc,args' = #[.slice (some a') 0 0,.int .i64 i,.slice (some v') m vc]∧SRel j va v' m cv0 vc:=by
   have hx:Yh j [.slice (some a) 0 c,.int .i64 i,.slice (some va) m cv0] args'.toList:=ha
   cases hx':args'.toList with
   | nil=>rw [hx'] at hx;cases hx
   | cons u l =>
    rw [hx'] at hx
    cases hx with
    | cons q1 q2 =>
     cases q2 with
     | cons q3 q4 =>
      cases q4 with
      | cons q5 q6 =>
       cases q6
       cases q1 with
       | slice k1 =>
        obtain ⟨x,_,_,_,_,hex,_,_⟩:=k1
        have hcc:=hex hcz.2
        rw [hcz.1] at hcc
        subst hcc
        cases q3
        cases q5 with
        | slice k2=>exact ⟨_,_,_,by rw [←Array.toArray_toList (xs:=args'),hx'],k2⟩
  obtain ⟨a',v',vc,rfl,hv⟩:=hargs
  exact z9O (m':=m) (fun e he=>(hI e he).2) hs hv h
 | false =>
 rw [hn0] at h
 have hI:=fun e he=>(hI e he).1
 have h:(ob (G.E.ti.get elem) fun e=>_)=some (v,S'):=h
 obtain ⟨e,he,h⟩:=z8 h
 obtain ⟨hc,h⟩:=ze h
 obtain ⟨cs,hcs,h⟩:=z8 h
 obtain ⟨hel,h⟩:=ze h
 obtain ⟨old,hold,h⟩:=z8 h
 obtain ⟨cv,hcv,h⟩:=z8 h
 obtain ⟨new,hnew,h⟩:=z8 h
 obtain ⟨hsc,h⟩:=ze h
 cases h
 simp only [yw] at hc hsc
 obtain ⟨c1,c2,c3,c4,c5,c6,c7,c8⟩:=hc
 have c2:=zm c2
 have c3:=zF c3
 have c4:=of_decide_eq_true c4
 have c5:=of_decide_eq_true c5
 have c6:=z0w c6
 have c7:=z0w c7
 have hel:=zm hel
 subst c2
 have hne:a.block≠va.block:=fun e=>by rw [e,Nat.beq_refl] at c8;cases c8
 have hargs:∃ a' cc v' vc,args' = #[.slice (some a') n cc,.int .i64 i,.slice (some v') 1 vc]∧SRel j a a' n c cc∧SRel j va v' 1 cv0 vc:=by
  have hx:Yh j [.slice (some a) n c,.int .i64 i,.slice (some va) 1 cv0] args'.toList:=ha
  cases hx':args'.toList with
  | nil=>rw [hx'] at hx;cases hx
  | cons u l =>
   rw [hx'] at hx
   cases hx with
   | cons q1 q2 =>
    cases q2 with
    | cons q3 q4 =>
     cases q4 with
     | cons q5 q6 =>
      cases q6
      cases q1 with
      | slice k1 =>
       cases q3
       cases q5 with
       | slice k2=>exact ⟨_,_,_,_,by rw [←Array.toArray_toList (xs:=args'),hx'],k1,k2⟩
 obtain ⟨a',cc,v',vc,rfl,⟨x,hx,hb,hsp,hnc,_,hcc,hd⟩,⟨y,hy,hvb,hvsp,hvn,_,_,hvd⟩⟩:=hargs
 have hb:=hb (by omega)
 have hsp:=hsp (by omega)
 have hvb:=hvb (by omega)
 have hvsp:=hvsp (by omega)
 obtain ⟨hoff,hcap⟩:=hd.resolve_left (by omega)
 obtain ⟨hvoff,_⟩:=hvd.resolve_left (by omega)
 obtain ⟨si,hi⟩:∃ i,a.spot=some i:=Option.isSome_iff_exists.1 c1
 have hcap:=hcap.resolve_left (by rw [hi];simp)
 have hes:=hs.esize he hx (by rw [z1J hcs,hel])
 obtain ⟨rc,re,hrow,hrs,_,_,hrel⟩:=hs.row hx hcs
 obtain ⟨vr,ve,hvrow,hvrs,_,_,hvrel⟩:=hs.row hy hcv
 obtain ⟨old',ho1,ho2,ho3⟩:=zan (off':=a'.off) hrel hold hoff
 obtain ⟨new',hn1,hn2,hn3⟩:=zan (off':=v'.off) hvrel hnew hvoff
 have hin:i.toNat≤n:=by simp only [yl] at c5;omega
 have hii:Value.int .i64 i = .int .i64 (i.toNat:Int):=by rw [Int.toNat_of_nonneg c4]
 have hblk:x.blk≠y.blk:=fun e=>hne (hs.inj _ _ x y hx hy (z1I hcs) (z1I hcv) e)
 have hrun:=hI e he x.blk a'.off n cc i.toNat y.blk v'.off vc old' new' w rc vr re ve hin c6 hnc c3 ho3 hn3 hblk hvrow hn2 (zak hn1 hsc.1) (zak ho1 hsc.2) hrow (by rw [hrs,hes];exact hcap) ho2
 have ea:a'=⟨x.blk,a'.off,none⟩:=by rw [←hb,←hsp]
 have ev:v'=⟨y.blk,v'.off,none⟩:=by rw [←hvb,←hvsp]
 have hil:(z6D e.size i.toNat old new).length=(n+1)*e.size:=z4A (by rw [ho1.length,ho3]) (by rw [hn1.length,hn3]) hin
 have hir:Yh j (z6D e.size i.toNat old new) (z6D e.size i.toNat old' new'):=zkY ho1 hn1
 refine ⟨Nat.min_le_right _ _,?_⟩
 rw [hii,ea,ev]
 refine hrun.mono ?_
 rintro ex w' (⟨hroom,cb',rfl,hio,g1,g2,g3,g4,g5⟩ | ⟨g,row,hg,rfl,hio,g1,g2,g3⟩)
 ·obtain ⟨h6,h7⟩:=hs.turn (y:=⟨x.blk,a'.off,x.csize,x.esize⟩) (o:=.cells (z6D e.size i.toNat old new) elem) hx (z1I hcs) rfl g1 g3 g2 (by
   refine ⟨_,re,rfl,by show cb'.size=x.csize;rw [g4,hrs],?_,fun t ht=>by rw [he] at ht;cases ht;exact hes,?_⟩
   ·show a'.off+(z6D e.size i.toNat old new).length≤x.csize
    rw [hil,hes]
    exact yn (Nat.add_le_add_left (Nat.mul_le_mul_right _ hroom) _) hcap
   ·intro q u hq
    obtain ⟨u',k1,k2⟩:=hir.get hq
    exact ⟨u',g5 q u' k1,k2.mono (ext_le (hs.fresh (ym _)))⟩) hio
  refine ⟨_,_,rfl,?_,h6,h7 _ (Nat.min_le_left _ _)⟩
  exact .slice ⟨_,z1O _ _ _,fun _=>rfl,fun _=>rfl,hroom,(fun h=>by cases h),hroom,.inr ⟨by show a'.off=0+a'.off;omega,.inr hcap⟩⟩
 ·obtain ⟨hk1,hk2⟩:=hs.kill hx (z1I hcs)
  have hw:w'=World.alloc { w' with heap:=w.heap } (.cells row elem):=by
   rw [←World.alloc_eq]
   cases w'
   dsimp only at g1 ⊢
   rw [g1]
  have hio0:SameIo w { w' with heap:=w.heap }:=hio
  have hlen:(z6D e.size i.toNat old new).length≤row.size:=by
   rw [hil]
   exact yn (Nat.mul_le_mul_right _ hg) g2
  obtain ⟨h5,h6⟩:=(hk1.heap_eq (w':={ w' with heap:=w.heap }) rfl).new ⟨w.heap.size,0,row.size,e.size⟩ (o:=.cells (z6D e.size i.toNat old new) elem) (o':=.cells row elem (0,0)) rfl (by
   refine ⟨row,elem,rfl,rfl,by show 0+_≤row.size;omega,fun t ht=>by rw [he] at ht;cases ht;rfl,?_⟩
   intro q u hq
   obtain ⟨u',k1,k2⟩:=hir.get hq
   exact ⟨u',by show row[0+q]? = some u';rw [Nat.zero_add];exact g3 q u' k1,k2.mono (ext_le (hs.fresh (ym _)))⟩)
  rw [←hw] at h5 h6
  refine ⟨_,_,rfl,z3r _ _ _ _ _ ⟨w.heap.size,0,row.size,e.size⟩ rfl rfl g2 hg,h5,?_⟩
  exact (hk2 _ (Nat.min_le_left _ _)).trans (fun b x hb=>(hs.dom b x hb).1) ((h6 _).heap_eq rfl hio0) (ym _)
end
theorem zo5 (hG:Yj G) (hC:SoundCodeR G (z1C G.E callF codeF)):z0h G (zjh G.E callF codeF):=by
 intro f args S v S' h00
 have h01:bf (z2E G.E f args) (some (.bool true,S)) (bf (z0A G.E f) (zor G.E f args S) (bf (z2z G.E f) (znd G.E f args S) (ob (G.E.fns.get f) fun fn=>ob fn.body fun c=>gd (Nat.ble args.length fn.ntmps)
  (ob (z1C G.E callF codeF c none ⟨fn.ntmps,z10 args 0 .nil⟩ S) (z3Z G.E fn)))))=some (v,S'):=h00
 cases hh:z2E G.E f args with
 | true =>
  rw [hh] at h01
  cases h01
  unfold z2E at hh
  cases hk:G.E.hook with
  | none=>rw [hk] at hh;cases hh
  | some h =>
   rw [hk] at hh
   simp only [yw] at hh
   obtain ⟨h1,h2⟩:=hG.hook h hk
   have:=zm hh.1;subst this
   refine ⟨h1,fun j args' w hs ha=>⟨ym _,?_⟩⟩
   have hnil:args=[]:=List.isEmpty_iff.1 hh.2
   subst hnil
   have:args' = #[]:=by
    have:=ha.length
    simpa using this.symm
   subst this
   refine (h2 w).mono ?_
   rintro e w' ⟨rfl,hio,h3,h4⟩
   refine ⟨_,j,rfl,.bool _,⟨fun b x hb=>⟨(hs.dom b x hb).1,yo (hs.dom b x hb).2 h3⟩,fun b x o hb ho=>?_,hs.inj,hs.rom.world (fun b x hb=>h4 _ (hs.dom b x hb).2) (fun _ h=>h)⟩,
    ⟨Le.refl _,ym _,h3,fun _ _ h=>h,fun _ _ _=>rfl,fun c hc _=>h4 c hc,(fun b x h h'=>by rw [h] at h';cases h'),(fun b h1 h2=>by omega),hio⟩⟩
   rw [h4 _ (hs.dom b x hb).2]
   exact hs.objs b x o hb ho
 | false =>
 rw [hh] at h01
 have h02:bf (z0A G.E f) (zor G.E f args S) (bf (z2z G.E f) (znd G.E f args S) (ob (G.E.fns.get f) fun fn=>ob fn.body fun c=>gd (Nat.ble args.length fn.ntmps)
  (ob (z1C G.E callF codeF c none ⟨fn.ntmps,z10 args 0 .nil⟩ S) (z3Z G.E fn))))=some (v,S'):=h01
 cases hso:z0A G.E f with
 | true =>
  rw [hso] at h02
  have h02:bf (z4T G.E f) (zfQ args S) (Option.rec none (fun h=>zm1 G.E h.2 args S) G.E.ins)=some (v,S'):=h02
  cases hsr:z4T G.E f with
  | true =>
   rw [hsr] at h02
   unfold z4T at hsr
   cases hk:G.E.sort with
   | none=>rw [hk] at hsr;cases hsr
   | some h =>
    rw [hk] at hsr
    have:=zm hsr;subst this
    obtain ⟨h1,h2,h3⟩:=hG.sort f hk
    exact ⟨h1,fun j args' w hs ha=>zfP h2 h3 hs ha h02⟩
  | false =>
   rw [hsr] at h02
   unfold z0A at hso
   rw [hsr,Bool.false_or] at hso
   unfold zf9 at hso
   cases hk:G.E.ins with
   | none=>rw [hk] at hso;cases hso
   | some h =>
    rw [hk] at hso
    have h02:(Option.rec none (fun h=>zm1 G.E h.2 args S) G.E.ins:Option (Value×St))=some (v,S'):=h02
    rw [hk] at h02
    obtain ⟨q,t⟩:=h
    have:=zm hso;subst this
    obtain ⟨h1,h2⟩:=hG.ins _ _ hk
    exact ⟨h1,fun j args' w hs ha=>zix h2 hs ha h02⟩
 | false =>
 rw [hso] at h02
 cases hor:z2z G.E f with
 | true =>
  rw [hor] at h02
  have h02:znd G.E f args S=some (v,S'):=h02
  unfold znd at h02
  cases hmk:zkW G.E f with
  | true =>
   rw [hmk] at h02
   obtain ⟨q,hq,h1⟩:=z8 h02
   obtain ⟨k1,k3,k4⟩:=hG.lkf f args S q hmk hq
   refine ⟨k1,fun j args' w hs ha=>?_⟩
   cases hz:Nat.beq q.1 0 with
   | true =>
    rw [hz] at h1
    cases h1
    refine ⟨ym _,?_⟩
    refine (k4 j args' w hs ha).mono ?_
    rintro e w' ⟨hio,h3,h4,h5⟩
    have he:e = .returned (.slice none 0 0):=by
     rcases h5 with h5 | h5
     ·exact h5.2
     ·exact absurd (zm hz) h5.1
    refine ⟨_,j,he,.nilSlice,⟨fun b x hb=>⟨(hs.dom b x hb).1,yo (hs.dom b x hb).2 h3⟩,fun b x o hb ho=>?_,hs.inj,hs.rom.world (fun b x hb=>h4 _ (hs.dom b x hb).2) (fun _ h=>h)⟩,
     ⟨Le.refl _,ym _,h3,fun _ _ h=>h,fun _ _ _=>rfl,fun c hc _=>h4 c hc,(fun b x h h'=>by rw [h] at h';cases h'),(fun b h1 h2=>by omega),hio⟩⟩
    rw [h4 _ (hs.dom b x hb).2]
    exact hs.objs b x o hb ho
   | false =>
    rw [hz] at h1
    cases h1
    refine ⟨ym _,?_⟩
    refine (k4 j args' w hs ha).mono ?_
    rintro ex w' ⟨hio,h3,h4,h5⟩
    rcases h5 with h5 | ⟨_,e,b,g,row,he,hlen,hb,rfl,hg,hrow,hfit,hcs⟩
    ·rw [h5.1] at hz;cases hz
    ·obtain ⟨h6,h7⟩:=hs.newTo ⟨b,0,row.size,e.size⟩ (o:=.cells q.2.1 q.2.2) hb h3 h4 hrow hio (by
      refine ⟨row,q.2.2,rfl,rfl,?_,fun t ht=>by rw [he] at ht;cases ht;rfl,?_⟩
      ·show 0+_≤row.size
       rw [hlen,Nat.zero_add]
       exact yn (Nat.mul_le_mul_right _ hg) hfit
      ·intro i u hi
       exact ⟨u,by show row[0+i]? = some u;rw [Nat.zero_add];exact hcs i u hi,z1x _ (k3 u (List.mem_of_getElem? hi))⟩)
     exact ⟨_,_,rfl,z3r _ _ _ _ _ ⟨b,0,row.size,e.size⟩ rfl rfl hfit hg,h6,h7 _⟩
  | false =>
  rw [hmk] at h02
  obtain ⟨u,hu,h1⟩:=z8 h02
  cases h1
  obtain ⟨k1,k3,k4⟩:=hG.orc f args S v hor hu
  refine ⟨k1,fun j args' w hs ha=>⟨ym _,?_⟩⟩
  refine (k4 j args' w hs ha).mono ?_
  rintro e w' ⟨rfl,hio,h3,h4⟩
  refine ⟨_,j,rfl,z1x j k3,⟨fun b x hb=>⟨(hs.dom b x hb).1,yo (hs.dom b x hb).2 h3⟩,fun b x o hb ho=>?_,hs.inj,hs.rom.world (fun b x hb=>h4 _ (hs.dom b x hb).2) (fun _ h=>h)⟩,
   ⟨Le.refl _,ym _,h3,fun _ _ h=>h,fun _ _ _=>rfl,fun c hc _=>h4 c hc,(fun b x h h'=>by rw [h] at h';cases h'),(fun b h1 h2=>by omega),hio⟩⟩
  rw [h4 _ (hs.dom b x hb).2]
  exact hs.objs b x o hb ho
 | false =>
 rw [hor] at h02
 have h0:ob (G.E.fns.get f) (fun fn=>ob fn.body fun c=>gd (Nat.ble args.length fn.ntmps)
  (ob (z1C G.E callF codeF c none ⟨fn.ntmps,z10 args 0 .nil⟩ S) (z3Z G.E fn)))=some (v,S'):=h02
 obtain ⟨fn,hfn,h1⟩:=z8 h0
 obtain ⟨c,hc,h2⟩:=z8 h1
 obtain ⟨hlen,h3⟩:=ze h2
 obtain ⟨q,hq,h4⟩:=z8 h3
 obtain ⟨hex,h5⟩:=ze h4
 obtain ⟨vs,hvs,h6⟩:=z8 h5
 cases h6
 obtain ⟨hf1,hf2,hf3⟩:=hG.fns f fn hfn
 refine ⟨⟨fn,hf1,hf2,by rw [hc];rfl⟩,fun j args' w hs ha=>?_⟩
 have hlen:=zF hlen
 have hal:args.length=args'.size:=by have:=ha.length;simpa using this
 have hT:TRel j ⟨fn.ntmps,z10 args 0 .nil⟩ (args'++Array.replicate (fn.ntmps - args'.size) undef):=by
  refine ⟨by simp;omega,fun k u hu=>?_⟩
  obtain ⟨u',h7,h8⟩:=zhz args args'.toList 0 .nil [] ha rfl (fun k v h=>by rw [Tr.get_nil] at h;cases h) k u hu
  refine ⟨u',?_,h8⟩
  have hk:k<args'.toList.length:=(List.getElem?_eq_some_iff.1 (by simpa using h7)).1
  rw [Array.getElem?_append_left (by simpa using hk)]
  simpa using h7
 obtain ⟨m,hm⟩:=hC c none _ S q hq (hf3 c hc)
 obtain ⟨h7,h8⟩:=hm 0 w.heap.size j { tmps:=args'++Array.replicate (fn.ntmps - args'.size) undef,defers:=[] } w none trivial hs hT (ym _) trivial
 refine ⟨h7,callsIn_wide.1 (callsIn_of_wp_marks (n:=0) hf1 hc trivial (wpIn_mono h8.wp ?_))⟩
 rintro e a' w' ⟨he,j',h9,h10,h11,h12⟩
 have hl:=z8B (F:=Fence.wide) (n:=0) hG (w0:=w) hvs h11 (ym _) a'.defers w' h12 h9 h10
 cases hqe:q.ex with
 | normal=>rw [he,hqe];exact hl
 | ret=>rw [he,hqe];exact hl
 | exit id=>rw [hqe] at hex;cases hex
theorem z8c (hG:Yj G):∀ n,z0h G (run G.E n).call∧SoundCodeR G (run G.E n).code
 | 0=>⟨(fun f args S v S' h=>by cases h),(fun c rd T S r h=>by cases h)⟩
 | n+1=>by
  obtain ⟨h1,h2⟩:=z8c hG n
  have h3:=zgn hG h1 h2
  exact ⟨zo5 hG h3,h3⟩
end
end
end Go.Proofs.YtdpipdniklognaaGreat
