/- The program's StemAgrees returns true for every stem, one and number, valid or not, without an exception and without changing its arguments: a part of the proof. -/
import Derived.Test.YtncpeobcgmkkbaaGreatVp
set_option linter.all false
/- The reference's table of least trees: what the walk of Least needs. -/
set_option maxRecDepth 100000
namespace Go.Proofs.YtncpeobcgmkkbaaGreat
theorem splitM_ge {F c:Nat→Nat→Int} {n q rest:Nat} (hc:∀ i k,0≤c i k) (hF:∀ v x,0≤F v x):0≤splitM F c n q rest:=by
 by_cases h:splitM F c n q rest<farZ
 ·obtain ⟨b,v,_,_,_,h4⟩:=splitM_ex h
  have h5:=hc q v
  have h6:=hF q (leftB q rest b)
  have h7:=hF v b
  omega
 ·have:(0:Int)≤farZ:=by decide
  omega
theorem valM_bd {F c:Nat→Nat→Int} {n s q:Nat} (hc:∀ i k,0≤c i k) (hF:∀ v x,0≤F v x):0≤valM c n F s q∧valM c n F s q≤farZ:=by
 unfold valM
 cases s.testBit q with
 | false=>exact ⟨by show (0:Int)≤farZ;decide,Int.le_refl _⟩
 | true =>
  cases Nat.beq (restB s q) 0 with
  | true=>exact ⟨Int.le_refl _,by show (0:Int)≤farZ;decide⟩
  | false=>exact ⟨splitM_ge hc hF,splitM_far⟩
theorem tab_bd {c:Nat→Nat→Int} {n:Nat} (hc:∀ i k,0≤c i k):∀ s v x,0≤tabM c n s v x∧tabM c n s v x≤farZ
 | 0,_,_=>⟨Int.le_refl _,by show (0:Int)≤farZ;decide⟩
 | s+1,v,x=>by
  unfold tabM
  cases (Nat.beq x s && !Nat.beq s 0) with
  | true=>exact valM_bd hc fun v x=>(tab_bd hc s v x).1
  | false=>exact tab_bd hc s v x
def midF (c:Nat→Nat→Int) (n s q v x:Nat):Int:=bif Nat.beq x s&&Nat.blt v q then valM c n (tabM c n s) s v else tabM c n s v x
theorem mid_zero (c:Nat→Nat→Int) (n s:Nat):midF c n s 0=tabM c n s:=by
 funext v x
 unfold midF
 rw [blt_f (Nat.not_lt_zero v),Bool.and_false];rfl
theorem mid_all {c:Nat→Nat→Int} {n s v x:Nat} (hv:v<n) (hs:0<s):midF c n s n v x=tabM c n (s+1) v x:=by
 unfold midF
 rw [tabM,blt_t hv,show Nat.beq s 0=false by cases s with | zero=>omega | succ s=>rfl];rfl
theorem mid_bd {c:Nat→Nat→Int} {n:Nat} (hc:∀ i k,0≤c i k) (s q v x:Nat):0≤midF c n s q v x∧midF c n s q v x≤farZ:=by
 unfold midF
 cases (Nat.beq x s&&Nat.blt v q) with
 | true=>exact valM_bd hc fun v x=>(tab_bd hc s v x).1
 | false=>exact tab_bd hc s v x
theorem mid_ne {c:Nat→Nat→Int} {n s q v:Nat} (h:v≠q) (x:Nat):midF c n s (q+1) v x=midF c n s q v x:=by
 unfold midF
 by_cases h1:v<q
 ·rw [blt_t h1,blt_t (show v<q+1 by omega)]
 ·rw [blt_f h1,blt_f (show ¬ v<q+1 by omega)]
theorem mid_at {c:Nat→Nat→Int} {n s q x:Nat}:midF c n s (q+1) q x=bif Nat.beq x s then valM c n (tabM c n s) s q else midF c n s q q x:=by
 unfold midF
 rw [blt_t (Nat.lt_succ_self q),blt_f (Nat.lt_irrefl q)]
 cases Nat.beq x s <;> rfl
def curF (c:Nat→Nat→Int) (n s q v x:Nat):Int:=bif Nat.beq v q&&Nat.beq x s then farZ else midF c n s q v x
theorem cur_bd {c:Nat→Nat→Int} {n:Nat} (hc:∀ i k,0≤c i k) (s q v x:Nat):0≤curF c n s q v x∧curF c n s q v x≤farZ:=by
 unfold curF
 cases (Nat.beq v q&&Nat.beq x s) with
 | true=>exact ⟨by show (0:Int)≤farZ;decide,Int.le_refl _⟩
 | false=>exact mid_bd hc s q v x
theorem cur_old {c:Nat→Nat→Int} {n s q v x:Nat} (h:x<s):curF c n s q v x=tabM c n s v x:=by
 unfold curF midF
 rw [beq_ne (show x≠s by omega),Bool.and_false];rfl
theorem split_cur {c:Nat→Nat→Int} {n s q:Nat} (hb:s.testBit q=true):splitM (curF c n s q) c n q (restB s q)=splitM (tabM c n s) c n q (restB s q) :=
 splitM_congr (fun b hs hne=>cur_old (left_lt hb hs hne)) (fun b v hs _=>cur_old (Nat.lt_of_le_of_lt (sub_le hs) (rest_lt hb)))
theorem val_no {c F:Nat→Nat→Int} {n s q:Nat} (hb:s.testBit q=false):valM c n F s q=farZ:=by unfold valM;rw [hb];rfl
theorem val_zero {c F:Nat→Nat→Int} {n s q:Nat} (hb:s.testBit q=true) (h0:Nat.beq (restB s q) 0=true):valM c n F s q=0:=by unfold valM;rw [hb,h0];rfl
theorem val_split {c F:Nat→Nat→Int} {n s q:Nat} (hb:s.testBit q=true) (h0:Nat.beq (restB s q) 0=false):valM c n F s q=splitM F c n q (restB s q):=by unfold valM;rw [hb,h0];rfl
noncomputable section
def exs (m:Nat):List (Nat×AV):=[(0,.sl 10 1 0 m m 1),(1,.sl 11 1 0 m m 1),(2,.sl 12 1 0 m m 1),(3,.sl 13 1 0 m m 1),(4,.sl 14 1 0 m m 1),(5,.sl 15 1 0 m m 1),(6,.sl 16 1 0 m m 1)]
theorem exs_at {m:Nat} {p:Nat→PV}:∀ {v:Nat},v<7→hdrX p (exs m) v = .sl (10+v) 1 0 m m 1
 | 0,_=>rfl
 | 1,_=>rfl
 | 2,_=>rfl
 | 3,_=>rfl
 | 4,_=>rfl
 | 5,_=>rfl
 | 6,_=>rfl
 | _+7,h=>by omega
theorem exs_take {m:Nat} {p:Nat→PV}:∀ {n v:Nat},v<n→n≤7→hdrX p ((exs m).take n) v=hdrX p (exs m) v
 | 0,v,h,_=>absurd h (Nat.not_lt_zero v)
 | 1,0,_,_=>rfl
 | 2,0,_,_ | 2,1,_,_=>rfl
 | 3,0,_,_ | 3,1,_,_ | 3,2,_,_=>rfl
 | 4,0,_,_ | 4,1,_,_ | 4,2,_,_ | 4,3,_,_=>rfl
 | 5,0,_,_ | 5,1,_,_ | 5,2,_,_ | 5,3,_,_ | 5,4,_,_=>rfl
 | 6,0,_,_ | 6,1,_,_ | 6,2,_,_ | 6,3,_,_ | 6,4,_,_ | 6,5,_,_=>rfl
 | 7,0,_,_ | 7,1,_,_ | 7,2,_,_ | 7,3,_,_ | 7,4,_,_ | 7,5,_,_ | 7,6,_,_=>rfl
 | _+8,_,_,h=>by omega
 | 1,v+1,h,_=>by omega
 | 2,v+2,h,_=>by omega
 | 3,v+3,h,_=>by omega
 | 4,v+4,h,_=>by omega
 | 5,v+5,h,_=>by omega
 | 6,v+6,h,_=>by omega
 | 7,v+7,h,_=>by omega
theorem exs_first {m q:Nat} {p:Nat→PV} (hq:q<7) (v:Nat):hdrX p ((q,.sl (10+q) 1 0 m m 1)::exs m) v=hdrX p (exs m) v:=by
 by_cases e:q=v
 ·subst e
  show (bif Nat.beq q q then _ else _)=_
  rw [Nat.beq_refl,exs_at hq];rfl
 ·show (bif Nat.beq q v then _ else _)=_
  rw [beq_ne e];rfl
def rowV (m:Nat) (w:Bool) (g:Nat→Int):VB:=.oarr w m 1 (fInts g) 3
def tabL (n m:Nat) (xs:List (Nat×AV)) (w:Nat→Bool) (G:Nat→Nat→Int):VS:=[(16,rowV m (w 6) (G 6)),(15,rowV m (w 5) (G 5)),(14,rowV m (w 4) (G 4)),(13,rowV m (w 3) (G 3)),(12,rowV m (w 2) (G 2)),(11,rowV m (w 1) (G 1)),(10,rowV m (w 0) (G 0)),(1,.hdr n (fun _=>nilP) xs 28)]
theorem Vw.table {E:Env} {F F0:VK} {L:VS} {i n m:Nat} {p:Nat→PV} {xs:List (Nat×AV)} {G:Nat→Nat→Int} (hb:bk L i=some (.hdr n p xs 28))
  (hrow:∀ v,v<n→∃ k ex f,hdrX p xs v = .sl k 1 0 m m ex∧(bk L k=some (.arr m 1 f 3)∨bk L k=some (.oarr true m 1 f 3))∧∀ x,x<m→f x=[.int .i64 (G v x)])
  (hF:∀ q∈F0,∃ a,ak F q.1=some a∧((a.only (fun _=>false)=true∧a=q.2)∨∃ ex,a = .sl i 1 0 n n ex∧q.2 = .p (tabP n m G))):Vw E [] F L F0 []:=by
 intro T S Z j hS hT
 obtain ⟨b,hj,vs,h1,h2,h3,h4⟩:=hS.blk i _ hb id
 have hrw:∀ v,v<n→∃ k bv,∃ ex:Option Nat,∃ us,∃ g:Nat→List Value,j k=some bv∧vs[v]? = some (.slice (some ⟨bv,0*1,ex⟩) m m)∧S.cells bv=some (us,3)∧us.length=m*1∧(∀ x,x<m→cut us (x*1) 1=some (g x))∧(∀ x,x<m→PRs E S Z [.int .i64 (G v x)] (g x)):=by
  intro v hv
  obtain ⟨k,ex,f,k1,k2,k3⟩:=hrow v hv
  obtain ⟨u,h5,h6⟩:=h4 v hv
  rw [k1] at h6
  cases h6 with
  | sl hjk =>
   rename_i bv
   have hbr:∃ us,∃ g:Nat→List Value,S.cells bv=some (us,3)∧us.length=m*1∧(∀ x,x<m→cut us (x*1) 1=some (g x))∧∀ x,x<m→PRs E S Z (f x) (g x):=by
    rcases k2 with k2 | k2
    ·obtain ⟨b2,e2,us,g,q1,q2,q3,q4⟩:=hS.blk k _ k2 id
     rw [hjk] at e2;cases e2
     exact ⟨us,g,q1,q2,q3,q4⟩
    ·obtain ⟨b2,e2,us,g,q1,q2,q3,q4⟩:=hS.blk k _ k2 (fun h=>by cases h)
     rw [hjk] at e2;cases e2
     exact ⟨us,g,q1,q2,q3,q4⟩
   obtain ⟨us,g,q1,q2,q3,q4⟩:=hbr
   exact ⟨k,bv,_,us,g,hjk,h5,q1,q2,q3,fun x hx=>by rw [←k3 x hx];exact q4 x hx⟩
 let Z':Nat→Prop:=fun c=>Z c∨∃ k,j k=some c
 have zj:∀ k c,j k=some c→Z' c:=fun k c h=>.inr ⟨k,h⟩
 have hzl:ZLe E S Z S Z':=fun c hc=>⟨.inl hc,rfl⟩
 have rdj:∀ k c,j k=some c→rdc E S c=S.cells c:=fun k c h=>hS.rd h
 have hrom:∀ k c,j k=some c→E.rom.get c=none:=fun k c h=>hS.unrom h
 have htab:∀ ex:Option Nat,PR E S Z' (tabP n m G) (.slice (some ⟨b,0,ex⟩) n n):=by
  intro ex
  refine .lst (sz:=1) (fun v=>(vs[v]?).toList) (zj i b hj) ((rdj i b hj).trans h1) (Nat.le_refl n) (Nat.zero_le _) (.inr ⟨rfl,hrom i b hj⟩) (fun v hv=>?_) (fun v hv=>?_)
  ·obtain ⟨u,h5,_⟩:=h4 v hv
   rw [Nat.zero_add,cut_one h5,h5];rfl
  ·obtain ⟨k,bv,ex2,us,g,q0,q1,q2,q3,q4,q5⟩:=hrw v hv
   show PRs E S Z' [rowI m (G v)] (vs[v]?).toList
   rw [q1]
   refine .cons (.lst (sz:=1) g (zj k bv q0) ((rdj k bv q0).trans q2) (Nat.le_refl m) (Nat.zero_le _) (.inr ⟨rfl,hrom k bv q0⟩) (fun x hx=>?_) (fun x hx=>(q5 x hx).mono hzl)) .nil
   rw [Nat.zero_mul,Nat.zero_add];exact q4 x hx
 refine ⟨Z',fun _=>none,⟨fun c hc=>?_,fun k c h=>(by cases h),fun k k' c h=>(by cases h),fun k _=>rfl,fun k vb h=>(by cases h),fun c q hc=>⟨(hS.rom c q hc).1,fun k h=>(by cases h)⟩⟩,fun t a ha=>?_,⟨Nat.le_refl _,fun _ _ _=>rfl,fun c hc=>.inl hc,fun c hc=>?_,fun k c h=>(by cases h),Nat.le_refl _,fun _ h _ _=>h⟩,fun k hk=>by cases hk⟩
 ·rcases hc with hc | ⟨k,hk⟩
  ·exact hS.zlt c hc
  ·exact (hS.jlt k c hk).1
 ·obtain ⟨a0,k1,k2⟩:=hF _ (ak_mem ha)
  obtain ⟨v,k3,k4⟩:=hT _ _ k1
  refine ⟨v,k3,?_⟩
  rcases k2 with ⟨k5,k6⟩ | ⟨ex,k5,k6⟩
  ·rw [←show a0=a from k6]
   exact k4.mono (g:=fun _=>false) hzl (fun _ _ h _=>(by cases h)) k5
  ·rw [show a = .p (tabP n m G) from k6]
   rw [k5] at k4
   cases k4 with
   | sl hjk =>
    rw [hj] at hjk;cases hjk
    rw [Nat.zero_mul]
    exact .p (htab _)
 ·rcases hc with hc | ⟨k,hk⟩
  ·exact .inl hc
  ·exact .inr (.inr ⟨k,hk⟩)
end
end Go.Proofs.YtncpeobcgmkkbaaGreat
/- Walks: the reference's least trees: Least. -/
set_option maxRecDepth 100000
namespace Go.Proofs.YtncpeobcgmkkbaaGreat
variable {r:Tr (List Value×TypeId)}
theorem exs_new {n m k:Nat} {p:Nat→PV} {v:AV} (hv:v = .sl (10+k) 1 0 m m 1) (hk:k<7):BImp (.hdr n p ((0+k,v)::(exs m).take k) 28) (.hdr n p ((exs m).take (k+1)) 28):=BImp.hdr fun q hq=>by
 subst hv
 have:hdrX p ((0+k,.sl (10+k) 1 0 m m 1)::(exs m).take k) q=hdrX p ((exs m).take (k+1)) q:=by
  rw [Nat.zero_add]
  match k,hk with
  | 0,_=>rfl
  | 1,_=>match q with | 0=>rfl | 1=>rfl | _+2=>rfl
  | 2,_=>match q with | 0=>rfl | 1=>rfl | 2=>rfl | _+3=>rfl
  | 3,_=>match q with | 0=>rfl | 1=>rfl | 2=>rfl | 3=>rfl | _+4=>rfl
  | 4,_=>match q with | 0=>rfl | 1=>rfl | 2=>rfl | 3=>rfl | 4=>rfl | _+5=>rfl
  | 5,_=>match q with | 0=>rfl | 1=>rfl | 2=>rfl | 3=>rfl | 4=>rfl | 5=>rfl | _+6=>rfl
  | 6,_=>match q with | 0=>rfl | 1=>rfl | 2=>rfl | 3=>rfl | 4=>rfl | 5=>rfl | 6=>rfl | _+7=>rfl
  | _+7,h=>omega
 rw [this];exact AImp.refl _
theorem rowV_eq {m:Nat} {w w':Bool} {g g':Nat→Int} (hw:w=w') (h:∀ x,g x=g' x):BImp (rowV m w g) (rowV m w' g'):=BImp.oarr hw fun x _=>by show [PV.int .i64 (g x)]=[.int .i64 (g' x)];rw [h]
theorem rowS {c:Nat→Nat→Int} {n m s v:Nat} (q:Nat) (h:v≠q):BImp (rowV m (Nat.blt v n) (midF c n s q v)) (rowV m (Nat.blt v n) (midF c n s (q+1) v)):=rowV_eq rfl fun x=>(mid_ne h x).symm
theorem rowV_new {m:Nat} {w:Bool} {g:Nat→Int} {f:Nat→List PV} (hw:w=true) (h:∀ x,x<m→f x=[.int .i64 (g x)]):BImp (.arr m 1 f 3) (rowV m w g):=BImp.arrO hw h
theorem exs_fwd {n m q:Nat} {p:Nat→PV} (hq:q<7):BImp (.hdr n p (exs m) 28) (.hdr n p ((q,.sl (10+q) 1 0 m m 1)::exs m) 28):=BImp.hdr fun v _=>by rw [exs_first hq];exact AImp.refl _
theorem exs_bck {n m q:Nat} {p:Nat→PV} (hq:q<7):BImp (.hdr n p ((q,.sl (10+q) 1 0 m m 1)::exs m) 28) (.hdr n p (exs m) 28):=BImp.hdr fun v _=>by rw [exs_first hq];exact AImp.refl _
theorem tab_one (c:Nat→Nat→Int) (n v x:Nat):tabM c n 1 v x=0:=by
 unfold tabM
 cases Nat.beq x 0 <;> rfl
theorem tf_nil {F:VK} {i n m:Nat} {G:Nat→Nat→Int}:∀ q∈([]:VK),∃ a,ak F q.1=some a∧((a.only (fun _=>false)=true∧a=q.2)∨∃ ex,a = .sl i 1 0 n n ex∧q.2 = .p (tabP n m G)):=fun q h=>by cases h
theorem tfK {F F0:VK} {i n m t:Nat} {a:AV} {G:Nat→Nat→Int} (h:ak F t=some a) (ho:a.only (fun _=>false)=true) (hl:∀ q∈F0,∃ a,ak F q.1=some a∧((a.only (fun _=>false)=true∧a=q.2)∨∃ ex,a = .sl i 1 0 n n ex∧q.2 = .p (tabP n m G))):∀ q∈(t,a)::F0,∃ a,ak F q.1=some a∧((a.only (fun _=>false)=true∧a=q.2)∨∃ ex,a = .sl i 1 0 n n ex∧q.2 = .p (tabP n m G)):=fun q hq=>by
 rcases List.mem_cons.1 hq with rfl | hq
 ·exact ⟨a,h,.inl ⟨ho,rfl⟩⟩
 ·exact hl q hq
theorem tfT {F F0:VK} {i n m t ex:Nat} {G:Nat→Nat→Int} (h:ak F t=some (.sl i 1 0 n n ex)) (hl:∀ q∈F0,∃ a,ak F q.1=some a∧((a.only (fun _=>false)=true∧a=q.2)∨∃ ex,a = .sl i 1 0 n n ex∧q.2 = .p (tabP n m G))):∀ q∈(t,.p (tabP n m G))::F0,∃ a,ak F q.1=some a∧((a.only (fun _=>false)=true∧a=q.2)∨∃ ex,a = .sl i 1 0 n n ex∧q.2 = .p (tabP n m G)):=fun q hq=>by
 rcases List.mem_cons.1 hq with rfl | hq
 ·exact ⟨_,h,.inr ⟨ex,rfl,rfl⟩⟩
 ·exact hl q hq
theorem row_far {c:Nat→Nat→Int} {n s q:Nat} (hb:s.testBit q=false) (x:Nat):(bif Nat.beq x (0+s) then [PV.int .i64 1000000] else [PV.int .i64 (midF c n s q q x)])=[PV.int .i64 (midF c n s (q+1) q x)]:=by
 rw [mid_at,val_no hb,Nat.zero_add]
 cases Nat.beq x s <;> rfl
def prevR (c:Nat→Nat→Int) (n s q:Nat):Nat→List PV:=fun i=>bif Nat.beq i (0+s) then ppaste (fInts (midF c n s q q) (0+s)) 0 [PV.int .i64 1000000] else fInts (midF c n s q q) i
theorem row_val {c:Nat→Nat→Int} {n s q:Nat} {z:Int} (h:valM c n (tabM c n s) s q=z) (x:Nat):(bif Nat.beq x (0+s) then ppaste (prevR c n s q (0+s)) 0 [PV.int .i64 z] else prevR c n s q x)=[PV.int .i64 (midF c n s (q+1) q x)]:=by
 have h1:prevR c n s q (0+s)=[PV.int .i64 1000000]:=by
  unfold prevR
  rw [Nat.beq_refl];rfl
 rw [h1,mid_at,h]
 show (bif Nat.beq x (0+s) then [PV.int .i64 z] else bif Nat.beq x (0+s) then [PV.int .i64 1000000] else [PV.int .i64 (midF c n s q q x)])=_
 rw [Nat.zero_add]
 cases Nat.beq x s <;> rfl
theorem row_zero {c:Nat→Nat→Int} {n s q:Nat} (hb:s.testBit q=true) (h0:Nat.beq (restB s q) 0=true) (x:Nat):(bif Nat.beq x (0+s) then ppaste (prevR c n s q (0+s)) 0 [PV.int .i64 0] else prevR c n s q x)=[PV.int .i64 (midF c n s (q+1) q x)]:=row_val (val_zero hb h0) x
theorem row_split {c:Nat→Nat→Int} {n s q:Nat} (hb:s.testBit q=true) (h0:Nat.beq (restB s q) 0=false) (x:Nat):(bif Nat.beq x (0+s) then ppaste (prevR c n s q (0+s)) 0 [PV.int .i64 (splitM (curF c n s q) c n q (restB s q))] else prevR c n s q x)=[PV.int .i64 (midF c n s (q+1) q x)]:=row_val ((val_split hb h0).trans (split_cur hb).symm) x
theorem row_cur {c:Nat→Nat→Int} {n s q:Nat} (x:Nat):(bif Nat.beq x (0+s) then [PV.int .i64 1000000] else [PV.int .i64 (midF c n s q q x)])=[PV.int .i64 (curF c n s q q x)]:=by
 unfold curF
 rw [Nat.beq_refl,Nat.zero_add,Bool.true_and]
 cases Nat.beq x s <;> rfl
def LImpV:VS→VS→Prop
 | [],[]=>True
 | (i,v)::l,(k,w)::m=>i=k∧(BImp v w∨w.void)∧LImpV l m
 | _,_=>False
theorem LImpV.key:∀ {l m:VS},LImpV l m→∀ k,(bk m k=none→bk l k=none)∧∀ w,bk m k=some w→∃ v,bk l k=some v∧(BImp v w∨w.void)
 | [],[],_,k=>⟨fun _=>rfl,fun w h=>by cases h⟩
 | (i,v)::l,(i',w)::m,h,k=>by
  obtain ⟨rfl,h1,h2⟩:=h
  rw [bk_cons,bk_cons]
  by_cases e:k=i
  ·rw [if_pos e,if_pos e]
   exact ⟨fun h=>(by cases h),fun w h=>by cases h;exact ⟨v,rfl,h1⟩⟩
  ·rw [if_neg e,if_neg e]
   exact LImpV.key h2 k
 | [],_::_,h,_=>h.elim
 | _::_,[],h,_=>h.elim
theorem Vw.impV {E:Env} {st:List Nat} {F:VK} {L L':VS} (hl:LImpV L L'):Vw E st F L F L':=fun T S Z j h1 h2 =>
 ⟨Z,j,⟨h1.zlt,h1.jlt,h1.inj,fun i hi=>h1.dom i ((hl.key i).1 hi),fun i w hi=>by
  obtain ⟨v,h3,h4⟩:=(hl.key i).2 w hi
  rcases h4 with h4 | h4
  ·rcases h1.blk' i v h3 with hv | ⟨b,h5,h6⟩
   ·exact .inl (h4.2 hv)
   ·exact .inr ⟨b,h5,h4.1 _ _ _ _ _ h6⟩
  ·exact .inl h4,h1.rom⟩,h2,Ex.refl _ _ _,Stay.refl _ _⟩
theorem rowV_last {c:Nat→Nat→Int} {n m s v:Nat} (hs:0<s):BImp (rowV m (Nat.blt v n) (midF c n s n v)) (rowV m (Nat.blt v n) (tabM c n (s+1) v))∨(rowV m (Nat.blt v n) (tabM c n (s+1) v)).void:=by
 by_cases hv:v<n
 ·exact .inl (rowV_eq rfl fun x=>mid_all hv hs)
 ·exact .inr (blt_f hv)
set_option maxHeartbeats 8000000 in
theorem Least_ok {n:Nat} {c:Nat→Nat→Int} (hn:n≤7) (hc:∀ i k,0≤c i k∧c i k≤farZ) :
  VP (sE r) 70 [treeV n c] (.p (rowI n (leastM c n))):=by
 have hp:2 ^ n≤128:=Nat.pow_le_pow_right (by decide) hn
 have hp0:0<2 ^ n:=Nat.two_pow_pos n
 have ob1:1 <<< n<9223372036854775808:=by rw [Nat.one_shiftLeft];omega
 refine VP.of (fn:=Tryz.f70) tb_ok rfl (by kernel_rfl) rfl rfl rfl ?_
 refine VSt.go tb_ok false [] 200 rfl (AllP.c (by omega) (AllP.c (by omega) AllP.n)) ?_
 refine VSt.viewC (Vw.freezeC 0 [tabP n n c] rfl rfl) ?_
 refine VSt.viewC (Vw.adoptO 10 (2 ^ n) 1 (fInts fun _=>0) 3 rfl) ?_
 refine VSt.viewC (Vw.adoptO 11 (2 ^ n) 1 (fInts fun _=>0) 3 rfl) ?_
 refine VSt.viewC (Vw.adoptO 12 (2 ^ n) 1 (fInts fun _=>0) 3 rfl) ?_
 refine VSt.viewC (Vw.adoptO 13 (2 ^ n) 1 (fInts fun _=>0) 3 rfl) ?_
 refine VSt.viewC (Vw.adoptO 14 (2 ^ n) 1 (fInts fun _=>0) 3 rfl) ?_
 refine VSt.viewC (Vw.adoptO 15 (2 ^ n) 1 (fInts fun _=>0) 3 rfl) ?_
 refine VSt.viewC (Vw.adoptO 16 (2 ^ n) 1 (fInts fun _=>0) 3 rfl) ?_
 refine VSt.viewC (Vw.kp [1,3,4,16,17,18] [(16,16),(15,15),(14,14),(13,13),(12,12),(11,11),(10,10),(1,1)] rfl) ?_
 refine VSt.rangeT tb_ok n (by omega) [1,3,4] (fun _=>[]) (fun k=>tabL n (2 ^ n) ((exs (2 ^ n)).take k) (fun v=>Nat.blt v k) fun _ _=>0) (fun _=>True) rfl rfl rfl (fun _=>rfl) rfl rfl u0_nil ⟨rfl,BImp.refl _,rfl,BImp.refl _,rfl,BImp.refl _,rfl,BImp.refl _,rfl,BImp.refl _,rfl,BImp.refl _,rfl,BImp.refl _,rfl,BImp.arrHdr (fun _ _=>rfl),trivial⟩ trivial (fun k hk _=>?_) (fun _=>?_)
 ·refine match k,hk with
   | 0,hk=>?_
   | 1,hk=>?_
   | 2,hk=>?_
   | 3,hk=>?_
   | 4,hk=>?_
   | 5,hk=>?_
   | 6,hk=>?_
   | _+7,hk=>absurd hk (by omega)
  ·refine VSt.go tb_ok false [25] 200 rfl (AllP.c (by omega) (AllP.c ‹_› AllP.n)) ?_
   refine VSt.putO 24 (nv (2 ^ n)) rfl (iv_nv (by rw [Nat.one_shiftLeft])) ?_
   refine VSt.go tb_ok false [] 200 rfl (AllP.c (by omega) (AllP.c (by omega) (AllP.c ‹_› (AllP.c rfl (AllP.c ‹_› (AllP.c rfl (AllP.c rfl (AllP.c rfl AllP.n)))))))) ?_
   refine ⟨?_,trivial⟩
   refine Wk.vw (ps:=[(16,16),(15,15),(14,14),(13,13),(12,12),(11,11),(10,17),(1,1)]) ⟨rfl,rfl,(by repeat (first | exact wf_nil | refine wf_back rfl rfl rfl ?_)),_,rfl,(⟨rfl,rowV_eq rfl (fun _=>rfl),rfl,rowV_eq rfl (fun _=>rfl),rfl,rowV_eq rfl (fun _=>rfl),rfl,rowV_eq rfl (fun _=>rfl),rfl,rowV_eq rfl (fun _=>rfl),rfl,rowV_eq rfl (fun _=>rfl),rfl,rowV_new rfl (fun _ _=>rfl),rfl,exs_new (k:=0) rfl (by decide),trivial⟩)⟩
  ·refine VSt.go tb_ok false [25] 200 rfl (AllP.c (by omega) (AllP.c ‹_› AllP.n)) ?_
   refine VSt.putO 24 (nv (2 ^ n)) rfl (iv_nv (by rw [Nat.one_shiftLeft])) ?_
   refine VSt.go tb_ok false [] 200 rfl (AllP.c (by omega) (AllP.c (by omega) (AllP.c ‹_› (AllP.c rfl (AllP.c ‹_› (AllP.c rfl (AllP.c rfl (AllP.c rfl AllP.n)))))))) ?_
   refine ⟨?_,trivial⟩
   refine Wk.vw (ps:=[(16,16),(15,15),(14,14),(13,13),(12,12),(11,17),(10,10),(1,1)]) ⟨rfl,rfl,(by repeat (first | exact wf_nil | refine wf_back rfl rfl rfl ?_)),_,rfl,(⟨rfl,rowV_eq rfl (fun _=>rfl),rfl,rowV_eq rfl (fun _=>rfl),rfl,rowV_eq rfl (fun _=>rfl),rfl,rowV_eq rfl (fun _=>rfl),rfl,rowV_eq rfl (fun _=>rfl),rfl,rowV_new rfl (fun _ _=>rfl),rfl,rowV_eq rfl (fun _=>rfl),rfl,exs_new (k:=1) rfl (by decide),trivial⟩)⟩
  ·refine VSt.go tb_ok false [25] 200 rfl (AllP.c (by omega) (AllP.c ‹_› AllP.n)) ?_
   refine VSt.putO 24 (nv (2 ^ n)) rfl (iv_nv (by rw [Nat.one_shiftLeft])) ?_
   refine VSt.go tb_ok false [] 200 rfl (AllP.c (by omega) (AllP.c (by omega) (AllP.c ‹_› (AllP.c rfl (AllP.c ‹_› (AllP.c rfl (AllP.c rfl (AllP.c rfl AllP.n)))))))) ?_
   refine ⟨?_,trivial⟩
   refine Wk.vw (ps:=[(16,16),(15,15),(14,14),(13,13),(12,17),(11,11),(10,10),(1,1)]) ⟨rfl,rfl,(by repeat (first | exact wf_nil | refine wf_back rfl rfl rfl ?_)),_,rfl,(⟨rfl,rowV_eq rfl (fun _=>rfl),rfl,rowV_eq rfl (fun _=>rfl),rfl,rowV_eq rfl (fun _=>rfl),rfl,rowV_eq rfl (fun _=>rfl),rfl,rowV_new rfl (fun _ _=>rfl),rfl,rowV_eq rfl (fun _=>rfl),rfl,rowV_eq rfl (fun _=>rfl),rfl,exs_new (k:=2) rfl (by decide),trivial⟩)⟩
  ·refine VSt.go tb_ok false [25] 200 rfl (AllP.c (by omega) (AllP.c ‹_› AllP.n)) ?_
   refine VSt.putO 24 (nv (2 ^ n)) rfl (iv_nv (by rw [Nat.one_shiftLeft])) ?_
   refine VSt.go tb_ok false [] 200 rfl (AllP.c (by omega) (AllP.c (by omega) (AllP.c ‹_› (AllP.c rfl (AllP.c ‹_› (AllP.c rfl (AllP.c rfl (AllP.c rfl AllP.n)))))))) ?_
   refine ⟨?_,trivial⟩
   refine Wk.vw (ps:=[(16,16),(15,15),(14,14),(13,17),(12,12),(11,11),(10,10),(1,1)]) ⟨rfl,rfl,(by repeat (first | exact wf_nil | refine wf_back rfl rfl rfl ?_)),_,rfl,(⟨rfl,rowV_eq rfl (fun _=>rfl),rfl,rowV_eq rfl (fun _=>rfl),rfl,rowV_eq rfl (fun _=>rfl),rfl,rowV_new rfl (fun _ _=>rfl),rfl,rowV_eq rfl (fun _=>rfl),rfl,rowV_eq rfl (fun _=>rfl),rfl,rowV_eq rfl (fun _=>rfl),rfl,exs_new (k:=3) rfl (by decide),trivial⟩)⟩
  ·refine VSt.go tb_ok false [25] 200 rfl (AllP.c (by omega) (AllP.c ‹_› AllP.n)) ?_
   refine VSt.putO 24 (nv (2 ^ n)) rfl (iv_nv (by rw [Nat.one_shiftLeft])) ?_
   refine VSt.go tb_ok false [] 200 rfl (AllP.c (by omega) (AllP.c (by omega) (AllP.c ‹_› (AllP.c rfl (AllP.c ‹_› (AllP.c rfl (AllP.c rfl (AllP.c rfl AllP.n)))))))) ?_
   refine ⟨?_,trivial⟩
   refine Wk.vw (ps:=[(16,16),(15,15),(14,17),(13,13),(12,12),(11,11),(10,10),(1,1)]) ⟨rfl,rfl,(by repeat (first | exact wf_nil | refine wf_back rfl rfl rfl ?_)),_,rfl,(⟨rfl,rowV_eq rfl (fun _=>rfl),rfl,rowV_eq rfl (fun _=>rfl),rfl,rowV_new rfl (fun _ _=>rfl),rfl,rowV_eq rfl (fun _=>rfl),rfl,rowV_eq rfl (fun _=>rfl),rfl,rowV_eq rfl (fun _=>rfl),rfl,rowV_eq rfl (fun _=>rfl),rfl,exs_new (k:=4) rfl (by decide),trivial⟩)⟩
  ·refine VSt.go tb_ok false [25] 200 rfl (AllP.c (by omega) (AllP.c ‹_› AllP.n)) ?_
   refine VSt.putO 24 (nv (2 ^ n)) rfl (iv_nv (by rw [Nat.one_shiftLeft])) ?_
   refine VSt.go tb_ok false [] 200 rfl (AllP.c (by omega) (AllP.c (by omega) (AllP.c ‹_› (AllP.c rfl (AllP.c ‹_› (AllP.c rfl (AllP.c rfl (AllP.c rfl AllP.n)))))))) ?_
   refine ⟨?_,trivial⟩
   refine Wk.vw (ps:=[(16,16),(15,17),(14,14),(13,13),(12,12),(11,11),(10,10),(1,1)]) ⟨rfl,rfl,(by repeat (first | exact wf_nil | refine wf_back rfl rfl rfl ?_)),_,rfl,(⟨rfl,rowV_eq rfl (fun _=>rfl),rfl,rowV_new rfl (fun _ _=>rfl),rfl,rowV_eq rfl (fun _=>rfl),rfl,rowV_eq rfl (fun _=>rfl),rfl,rowV_eq rfl (fun _=>rfl),rfl,rowV_eq rfl (fun _=>rfl),rfl,rowV_eq rfl (fun _=>rfl),rfl,exs_new (k:=5) rfl (by decide),trivial⟩)⟩
  ·refine VSt.go tb_ok false [25] 200 rfl (AllP.c (by omega) (AllP.c ‹_› AllP.n)) ?_
   refine VSt.putO 24 (nv (2 ^ n)) rfl (iv_nv (by rw [Nat.one_shiftLeft])) ?_
   refine VSt.go tb_ok false [] 200 rfl (AllP.c (by omega) (AllP.c (by omega) (AllP.c ‹_› (AllP.c rfl (AllP.c ‹_› (AllP.c rfl (AllP.c rfl (AllP.c rfl AllP.n)))))))) ?_
   refine ⟨?_,trivial⟩
   refine Wk.vw (ps:=[(16,17),(15,15),(14,14),(13,13),(12,12),(11,11),(10,10),(1,1)]) ⟨rfl,rfl,(by repeat (first | exact wf_nil | refine wf_back rfl rfl rfl ?_)),_,rfl,(⟨rfl,rowV_new rfl (fun _ _=>rfl),rfl,rowV_eq rfl (fun _=>rfl),rfl,rowV_eq rfl (fun _=>rfl),rfl,rowV_eq rfl (fun _=>rfl),rfl,rowV_eq rfl (fun _=>rfl),rfl,rowV_eq rfl (fun _=>rfl),rfl,rowV_eq rfl (fun _=>rfl),rfl,exs_new (k:=6) rfl (by decide),trivial⟩)⟩
 ·refine VSt.run tb_ok false [] 1 rfl trivial ?_
  refine VSt.viewC (Vw.imp (L':=tabL n (2 ^ n) (exs (2 ^ n)) (fun v=>Nat.blt v n) (tabM c n 1)) ⟨rfl,rowV_eq rfl (fun x=>(tab_one c n 6 x).symm),rfl,rowV_eq rfl (fun x=>(tab_one c n 5 x).symm),rfl,rowV_eq rfl (fun x=>(tab_one c n 4 x).symm),rfl,rowV_eq rfl (fun x=>(tab_one c n 3 x).symm),rfl,rowV_eq rfl (fun x=>(tab_one c n 2 x).symm),rfl,rowV_eq rfl (fun x=>(tab_one c n 1 x).symm),rfl,rowV_eq rfl (fun x=>(tab_one c n 0 x).symm),rfl,BImp.hdr (fun v hv=>by rw [exs_take hv hn];exact AImp.refl _),trivial⟩) ?_
  refine VSt.go tb_ok false [] 200 rfl AllP.n ?_
  refine VSt.loop (α :=Nat) (fun s F' L=>0<s∧s≤2 ^ n∧F'=[(1,.p (.fp [tabP n n c] 0)),(3,nv n),(4,.sl 1 1 0 n n 1),(6,nv s)]∧L=tabL n (2 ^ n) (exs (2 ^ n)) (fun v=>Nat.blt v n) (tabM c n s)) (fun s=>2 ^ n - s) 1 (by refine Wk.vw (ps:=[(16,16),(15,15),(14,14),(13,13),(12,12),(11,11),(10,10),(1,1)]) ⟨rfl,rfl,(by repeat (first | exact wf_nil | refine wf_back rfl rfl rfl ?_)),_,rfl,((LImp.refl _))⟩) ⟨by decide,by omega,rfl,rfl⟩ ?_
  rintro s F' L ⟨hs0,hs,rfl,rfl⟩
  refine VSt.go tb_ok false [31] 200 rfl (AllP.c (by omega) (AllP.c ‹_› AllP.n)) ?_
  refine VSt.putO 30 (nv (2 ^ n)) rfl (iv_nv (by rw [Nat.one_shiftLeft])) ?_
  refine VSt.go tb_ok false [] 200 rfl AllP.n ?_
  refine VSt.cond rfl (fun g=>?_) (fun g=>?_)
  ·have hs1:s<2 ^ n:=by have:=of_decide_eq_true g;simp only [Int.ofNat_eq_natCast] at this;omega
   have hb1:∀ q,s >>> q<9223372036854775808:=fun q=>by
    have h9:s >>> q≤s:=by rw [Nat.shiftRight_eq_div_pow];exact Nat.div_le_self _ _
    generalize s >>> q=y at h9 ⊢;omega
   refine VSt.go tb_ok false [] 200 rfl AllP.n ?_
   refine VSt.loop (α :=Nat) (fun q F' L=>q≤n∧F'=[(1,.p (.fp [tabP n n c] 0)),(3,nv n),(4,.sl 1 1 0 n n 1),(6,nv s),(7,nv q)]∧L=tabL n (2 ^ n) (exs (2 ^ n)) (fun v=>Nat.blt v n) (midF c n s q)) (fun q=>n - q) 0 (by refine Wk.vw (ps:=[(16,16),(15,15),(14,14),(13,13),(12,12),(11,11),(10,10),(1,1)]) ⟨rfl,rfl,(by repeat (first | exact wf_nil | refine wf_back rfl rfl rfl ?_)),_,rfl,(⟨rfl,rowV_eq rfl (fun x=>by rw [mid_zero]),rfl,rowV_eq rfl (fun x=>by rw [mid_zero]),rfl,rowV_eq rfl (fun x=>by rw [mid_zero]),rfl,rowV_eq rfl (fun x=>by rw [mid_zero]),rfl,rowV_eq rfl (fun x=>by rw [mid_zero]),rfl,rowV_eq rfl (fun x=>by rw [mid_zero]),rfl,rowV_eq rfl (fun x=>by rw [mid_zero]),rfl,BImp.refl _,trivial⟩)⟩) ⟨Nat.zero_le _,rfl,rfl⟩ ?_
   rintro q F' L ⟨hq,rfl,rfl⟩
   refine VSt.go tb_ok false [] 200 rfl AllP.n ?_
   refine VSt.cond rfl (fun gq=>?_) (fun gq=>?_)
   ·have hk:q<n:=by have:=of_decide_eq_true gq;simp only [Int.ofNat_eq_natCast] at this;omega
    refine match q,hk with
     | 0,hk=>?_
     | 1,hk=>?_
     | 2,hk=>?_
     | 3,hk=>?_
     | 4,hk=>?_
     | 5,hk=>?_
     | 6,hk=>?_
     | _+7,hk=>absurd hk (by omega)
    ·refine VSt.viewC (Vw.imp (L':=(up (tabL n (2 ^ n) ((0,.sl 10 1 0 (2 ^ n) (2 ^ n) 1)::exs (2 ^ n)) (fun v=>Nat.blt v n) (midF c n s 0)) 10 (.arr (2 ^ n) 1 (fInts (midF c n s 0 0)) 3))) ⟨rfl,BImp.refl _,rfl,BImp.refl _,rfl,BImp.refl _,rfl,BImp.refl _,rfl,BImp.refl _,rfl,BImp.refl _,rfl,BImp.oArr (blt_t hk) (fun _ _=>rfl),rfl,exs_fwd (q:=0) (by decide),trivial⟩) ?_
     have hbq:=hb1 0
     have hsq:1 <<< 0<9223372036854775808:=by decide
     refine VSt.go tb_ok false [] 200 rfl (AllP.c ‹_› (AllP.c rfl (AllP.c ‹_› (AllP.c rfl (AllP.c rfl (AllP.c rfl (AllP.c ‹_› (AllP.c rfl (AllP.c (by omega) (AllP.c rfl (AllP.c (Nat.le_refl _) (AllP.c (by omega) (AllP.c ‹_› (AllP.c ‹_› AllP.n)))))))))))))) ?_
     refine VSt.cond rfl (fun g2=>?_) (fun g2=>?_)
     ·have hb:s.testBit 0=false:=by have:=(bit_eq0 s 0).symm.trans g2;simpa using this
      refine VSt.go tb_ok false [] 200 rfl (AllP.c (by unfold inR;(try simp only [Int.ofNat_eq_natCast]);omega) AllP.n) ?_
      refine ⟨1,_,_,(by refine Wk.vw (ps:=[(16,16),(15,15),(14,14),(13,13),(12,12),(11,11),(10,10),(1,1)]) ⟨rfl,rfl,(by repeat (first | exact wf_nil | refine wf_back rfl rfl rfl ?_)),_,rfl,(⟨rfl,rowS 0 (by decide),rfl,rowS 0 (by decide),rfl,rowS 0 (by decide),rfl,rowS 0 (by decide),rfl,rowS 0 (by decide),rfl,rowS 0 (by decide),rfl,rowV_new (blt_t hk) (fun x _=>row_far (c:=c) (n:=n) (q:=0) hb x),rfl,exs_bck (q:=0) (by decide),trivial⟩)⟩),⟨hk,rfl,rfl⟩,by show n - 1<n - 0;omega⟩
     ·have hb:s.testBit 0=true:=by have:=(bit_eq0 s 0).symm.trans g2;simpa using this
      refine VSt.go tb_ok false [] 200 rfl (AllP.c (by omega) (AllP.c ‹_› (AllP.c ‹_› (AllP.c ‹_› AllP.n)))) ?_
      refine VSt.cond rfl (fun g3=>?_) (fun g3=>?_)
      ·have h0:Nat.beq (restB s 0) 0=true:=(nat_eq0 _).symm.trans g3
       refine VSt.go tb_ok false [] 200 rfl (AllP.c ‹_› (AllP.c rfl (AllP.c ‹_› (AllP.c rfl (AllP.c rfl (AllP.c rfl (AllP.c ‹_› (AllP.c rfl (AllP.c (by omega) (AllP.c rfl (AllP.c (Nat.le_refl _) (AllP.c (by unfold inR;(try simp only [Int.ofNat_eq_natCast]);omega) AllP.n)))))))))))) ?_
       refine ⟨1,_,_,(by refine Wk.vw (ps:=[(16,16),(15,15),(14,14),(13,13),(12,12),(11,11),(10,10),(1,1)]) ⟨rfl,rfl,(by repeat (first | exact wf_nil | refine wf_back rfl rfl rfl ?_)),_,rfl,(⟨rfl,rowS 0 (by decide),rfl,rowS 0 (by decide),rfl,rowS 0 (by decide),rfl,rowS 0 (by decide),rfl,rowS 0 (by decide),rfl,rowS 0 (by decide),rfl,rowV_new (blt_t hk) (fun x _=>row_zero (c:=c) (n:=n) (q:=0) hb h0 x),rfl,exs_bck (q:=0) (by decide),trivial⟩)⟩),⟨hk,rfl,rfl⟩,by show n - 1<n - 0;omega⟩
      ·have h0:Nat.beq (restB s 0) 0=false:=(nat_eq0 _).symm.trans g3
       have hr0:0<restB s 0:=by cases hx:restB s 0 with | zero=>rw [hx] at h0;cases h0 | succ y=>omega
       refine VSt.go tb_ok false [] 200 rfl (AllP.c ‹_› (AllP.c rfl (AllP.c ‹_› (AllP.c rfl (AllP.c rfl (AllP.c rfl AllP.n)))))) ?_
       refine vbuildD (a:=.agg [nv 0,nv (restB s 0)]) tb_ok rfl rfl rfl rfl ?_
       refine VSt.lookD (first:=[]) (cap:=[]) (args:=[treeV n c,.p (tabP n (2 ^ n) (curF c n s 0)),.agg [nv 0,nv (restB s 0)]]) (g:=106) (Vw.table (i:=1) (n:=n) (m:=2 ^ n) (G:=curF c n s 0) (F0:=[(67,treeV n c),(68,.p (tabP n (2 ^ n) (curF c n s 0))),(71,.agg [nv 0,nv (restB s 0)])]) rfl (fun v hv=>?_) (tfK rfl rfl (tfT rfl (tfK rfl rfl tf_nil)))) rfl rfl rfl rfl rfl rfl rfl (split_ok hn hk hr0 (Nat.lt_trans (rest_lt hb) hs1) hc (cur_bd (fun i k=>(hc i k).1) s 0)).2 (fun a L' h=>?_) ?_
       ·refine match v,hv with
         | 0,hv=>⟨10,_,_,rfl,.inl rfl,fun x _=>row_cur x⟩
         | 1,hv=>⟨11,_,_,rfl,.inr (congrArg (fun w=>some (VB.oarr w (2 ^ n) 1 (fInts (midF c n s 0 1)) 3)) (blt_t hv)),fun _ _=>rfl⟩
         | 2,hv=>⟨12,_,_,rfl,.inr (congrArg (fun w=>some (VB.oarr w (2 ^ n) 1 (fInts (midF c n s 0 2)) 3)) (blt_t hv)),fun _ _=>rfl⟩
         | 3,hv=>⟨13,_,_,rfl,.inr (congrArg (fun w=>some (VB.oarr w (2 ^ n) 1 (fInts (midF c n s 0 3)) 3)) (blt_t hv)),fun _ _=>rfl⟩
         | 4,hv=>⟨14,_,_,rfl,.inr (congrArg (fun w=>some (VB.oarr w (2 ^ n) 1 (fInts (midF c n s 0 4)) 3)) (blt_t hv)),fun _ _=>rfl⟩
         | 5,hv=>⟨15,_,_,rfl,.inr (congrArg (fun w=>some (VB.oarr w (2 ^ n) 1 (fInts (midF c n s 0 5)) 3)) (blt_t hv)),fun _ _=>rfl⟩
         | 6,hv=>⟨16,_,_,rfl,.inr (congrArg (fun w=>some (VB.oarr w (2 ^ n) 1 (fInts (midF c n s 0 6)) 3)) (blt_t hv)),fun _ _=>rfl⟩
         | _+7,hv=>absurd hv (by omega)
       ·obtain ⟨rfl,rfl⟩:=h
        exact ⟨rfl,trivial⟩
       ·rintro a L' ⟨rfl,rfl⟩
        refine VSt.go tb_ok false [] 200 rfl (AllP.c ‹_› (AllP.c rfl (AllP.c (by omega) (AllP.c rfl (AllP.c (Nat.le_refl _) (AllP.c (by unfold inR;(try simp only [Int.ofNat_eq_natCast]);omega) AllP.n)))))) ?_
        refine ⟨1,_,_,(by refine Wk.vw (ps:=[(16,16),(15,15),(14,14),(13,13),(12,12),(11,11),(10,10),(1,1)]) ⟨rfl,rfl,(by repeat (first | exact wf_nil | refine wf_back rfl rfl rfl ?_)),_,rfl,(⟨rfl,rowS 0 (by decide),rfl,rowS 0 (by decide),rfl,rowS 0 (by decide),rfl,rowS 0 (by decide),rfl,rowS 0 (by decide),rfl,rowS 0 (by decide),rfl,rowV_new (blt_t hk) (fun x _=>row_split (c:=c) (n:=n) (q:=0) hb h0 x),rfl,exs_bck (q:=0) (by decide),trivial⟩)⟩),⟨hk,rfl,rfl⟩,by show n - 1<n - 0;omega⟩
    ·refine VSt.viewC (Vw.imp (L':=(up (tabL n (2 ^ n) ((1,.sl 11 1 0 (2 ^ n) (2 ^ n) 1)::exs (2 ^ n)) (fun v=>Nat.blt v n) (midF c n s 1)) 11 (.arr (2 ^ n) 1 (fInts (midF c n s 1 1)) 3))) ⟨rfl,BImp.refl _,rfl,BImp.refl _,rfl,BImp.refl _,rfl,BImp.refl _,rfl,BImp.refl _,rfl,BImp.oArr (blt_t hk) (fun _ _=>rfl),rfl,BImp.refl _,rfl,exs_fwd (q:=1) (by decide),trivial⟩) ?_
     have hbq:=hb1 1
     have hsq:1 <<< 1<9223372036854775808:=by decide
     refine VSt.go tb_ok false [] 200 rfl (AllP.c ‹_› (AllP.c rfl (AllP.c ‹_› (AllP.c rfl (AllP.c rfl (AllP.c rfl (AllP.c ‹_› (AllP.c rfl (AllP.c (by omega) (AllP.c rfl (AllP.c (Nat.le_refl _) (AllP.c (by omega) (AllP.c ‹_› (AllP.c (by show 1<_;omega) AllP.n)))))))))))))) ?_
     refine VSt.cond rfl (fun g2=>?_) (fun g2=>?_)
     ·have hb:s.testBit 1=false:=by have:=(bit_eq0 s 1).symm.trans g2;simpa using this
      refine VSt.go tb_ok false [] 200 rfl (AllP.c (by unfold inR;(try simp only [Int.ofNat_eq_natCast]);omega) AllP.n) ?_
      refine ⟨2,_,_,(by refine Wk.vw (ps:=[(16,16),(15,15),(14,14),(13,13),(12,12),(11,11),(10,10),(1,1)]) ⟨rfl,rfl,(by repeat (first | exact wf_nil | refine wf_back rfl rfl rfl ?_)),_,rfl,(⟨rfl,rowS 1 (by decide),rfl,rowS 1 (by decide),rfl,rowS 1 (by decide),rfl,rowS 1 (by decide),rfl,rowS 1 (by decide),rfl,rowV_new (blt_t hk) (fun x _=>row_far (c:=c) (n:=n) (q:=1) hb x),rfl,rowS 1 (by decide),rfl,exs_bck (q:=1) (by decide),trivial⟩)⟩),⟨hk,rfl,rfl⟩,by show n - 2<n - 1;omega⟩
     ·have hb:s.testBit 1=true:=by have:=(bit_eq0 s 1).symm.trans g2;simpa using this
      refine VSt.go tb_ok false [] 200 rfl (AllP.c (by omega) (AllP.c ‹_› (AllP.c (by omega) (AllP.c ‹_› AllP.n)))) ?_
      refine VSt.cond rfl (fun g3=>?_) (fun g3=>?_)
      ·have h0:Nat.beq (restB s 1) 0=true:=(nat_eq0 _).symm.trans g3
       refine VSt.go tb_ok false [] 200 rfl (AllP.c ‹_› (AllP.c rfl (AllP.c ‹_› (AllP.c rfl (AllP.c rfl (AllP.c rfl (AllP.c ‹_› (AllP.c rfl (AllP.c (by omega) (AllP.c rfl (AllP.c (Nat.le_refl _) (AllP.c (by unfold inR;(try simp only [Int.ofNat_eq_natCast]);omega) AllP.n)))))))))))) ?_
       refine ⟨2,_,_,(by refine Wk.vw (ps:=[(16,16),(15,15),(14,14),(13,13),(12,12),(11,11),(10,10),(1,1)]) ⟨rfl,rfl,(by repeat (first | exact wf_nil | refine wf_back rfl rfl rfl ?_)),_,rfl,(⟨rfl,rowS 1 (by decide),rfl,rowS 1 (by decide),rfl,rowS 1 (by decide),rfl,rowS 1 (by decide),rfl,rowS 1 (by decide),rfl,rowV_new (blt_t hk) (fun x _=>row_zero (c:=c) (n:=n) (q:=1) hb h0 x),rfl,rowS 1 (by decide),rfl,exs_bck (q:=1) (by decide),trivial⟩)⟩),⟨hk,rfl,rfl⟩,by show n - 2<n - 1;omega⟩
      ·have h0:Nat.beq (restB s 1) 0=false:=(nat_eq0 _).symm.trans g3
       have hr0:0<restB s 1:=by cases hx:restB s 1 with | zero=>rw [hx] at h0;cases h0 | succ y=>omega
       refine VSt.go tb_ok false [] 200 rfl (AllP.c ‹_› (AllP.c rfl (AllP.c ‹_› (AllP.c rfl (AllP.c rfl (AllP.c rfl AllP.n)))))) ?_
       refine vbuildD (a:=.agg [nv 1,nv (restB s 1)]) tb_ok rfl rfl rfl rfl ?_
       refine VSt.lookD (first:=[]) (cap:=[]) (args:=[treeV n c,.p (tabP n (2 ^ n) (curF c n s 1)),.agg [nv 1,nv (restB s 1)]]) (g:=106) (Vw.table (i:=1) (n:=n) (m:=2 ^ n) (G:=curF c n s 1) (F0:=[(67,treeV n c),(68,.p (tabP n (2 ^ n) (curF c n s 1))),(71,.agg [nv 1,nv (restB s 1)])]) rfl (fun v hv=>?_) (tfK rfl rfl (tfT rfl (tfK rfl rfl tf_nil)))) rfl rfl rfl rfl rfl rfl rfl (split_ok hn hk hr0 (Nat.lt_trans (rest_lt hb) hs1) hc (cur_bd (fun i k=>(hc i k).1) s 1)).2 (fun a L' h=>?_) ?_
       ·refine match v,hv with
         | 0,hv=>⟨10,_,_,rfl,.inr (congrArg (fun w=>some (VB.oarr w (2 ^ n) 1 (fInts (midF c n s 1 0)) 3)) (blt_t hv)),fun _ _=>rfl⟩
         | 1,hv=>⟨11,_,_,rfl,.inl rfl,fun x _=>row_cur x⟩
         | 2,hv=>⟨12,_,_,rfl,.inr (congrArg (fun w=>some (VB.oarr w (2 ^ n) 1 (fInts (midF c n s 1 2)) 3)) (blt_t hv)),fun _ _=>rfl⟩
         | 3,hv=>⟨13,_,_,rfl,.inr (congrArg (fun w=>some (VB.oarr w (2 ^ n) 1 (fInts (midF c n s 1 3)) 3)) (blt_t hv)),fun _ _=>rfl⟩
         | 4,hv=>⟨14,_,_,rfl,.inr (congrArg (fun w=>some (VB.oarr w (2 ^ n) 1 (fInts (midF c n s 1 4)) 3)) (blt_t hv)),fun _ _=>rfl⟩
         | 5,hv=>⟨15,_,_,rfl,.inr (congrArg (fun w=>some (VB.oarr w (2 ^ n) 1 (fInts (midF c n s 1 5)) 3)) (blt_t hv)),fun _ _=>rfl⟩
         | 6,hv=>⟨16,_,_,rfl,.inr (congrArg (fun w=>some (VB.oarr w (2 ^ n) 1 (fInts (midF c n s 1 6)) 3)) (blt_t hv)),fun _ _=>rfl⟩
         | _+7,hv=>absurd hv (by omega)
       ·obtain ⟨rfl,rfl⟩:=h
        exact ⟨rfl,trivial⟩
       ·rintro a L' ⟨rfl,rfl⟩
        refine VSt.go tb_ok false [] 200 rfl (AllP.c ‹_› (AllP.c rfl (AllP.c (by omega) (AllP.c rfl (AllP.c (Nat.le_refl _) (AllP.c (by unfold inR;(try simp only [Int.ofNat_eq_natCast]);omega) AllP.n)))))) ?_
        refine ⟨2,_,_,(by refine Wk.vw (ps:=[(16,16),(15,15),(14,14),(13,13),(12,12),(11,11),(10,10),(1,1)]) ⟨rfl,rfl,(by repeat (first | exact wf_nil | refine wf_back rfl rfl rfl ?_)),_,rfl,(⟨rfl,rowS 1 (by decide),rfl,rowS 1 (by decide),rfl,rowS 1 (by decide),rfl,rowS 1 (by decide),rfl,rowS 1 (by decide),rfl,rowV_new (blt_t hk) (fun x _=>row_split (c:=c) (n:=n) (q:=1) hb h0 x),rfl,rowS 1 (by decide),rfl,exs_bck (q:=1) (by decide),trivial⟩)⟩),⟨hk,rfl,rfl⟩,by show n - 2<n - 1;omega⟩
    ·refine VSt.viewC (Vw.imp (L':=(up (tabL n (2 ^ n) ((2,.sl 12 1 0 (2 ^ n) (2 ^ n) 1)::exs (2 ^ n)) (fun v=>Nat.blt v n) (midF c n s 2)) 12 (.arr (2 ^ n) 1 (fInts (midF c n s 2 2)) 3))) ⟨rfl,BImp.refl _,rfl,BImp.refl _,rfl,BImp.refl _,rfl,BImp.refl _,rfl,BImp.oArr (blt_t hk) (fun _ _=>rfl),rfl,BImp.refl _,rfl,BImp.refl _,rfl,exs_fwd (q:=2) (by decide),trivial⟩) ?_
     have hbq:=hb1 2
     have hsq:1 <<< 2<9223372036854775808:=by decide
     refine VSt.go tb_ok false [] 200 rfl (AllP.c ‹_› (AllP.c rfl (AllP.c ‹_› (AllP.c rfl (AllP.c rfl (AllP.c rfl (AllP.c ‹_› (AllP.c rfl (AllP.c (by omega) (AllP.c rfl (AllP.c (Nat.le_refl _) (AllP.c (by omega) (AllP.c ‹_› (AllP.c (by show 1<_;omega) AllP.n)))))))))))))) ?_
     refine VSt.cond rfl (fun g2=>?_) (fun g2=>?_)
     ·have hb:s.testBit 2=false:=by have:=(bit_eq0 s 2).symm.trans g2;simpa using this
      refine VSt.go tb_ok false [] 200 rfl (AllP.c (by unfold inR;(try simp only [Int.ofNat_eq_natCast]);omega) AllP.n) ?_
      refine ⟨3,_,_,(by refine Wk.vw (ps:=[(16,16),(15,15),(14,14),(13,13),(12,12),(11,11),(10,10),(1,1)]) ⟨rfl,rfl,(by repeat (first | exact wf_nil | refine wf_back rfl rfl rfl ?_)),_,rfl,(⟨rfl,rowS 2 (by decide),rfl,rowS 2 (by decide),rfl,rowS 2 (by decide),rfl,rowS 2 (by decide),rfl,rowV_new (blt_t hk) (fun x _=>row_far (c:=c) (n:=n) (q:=2) hb x),rfl,rowS 2 (by decide),rfl,rowS 2 (by decide),rfl,exs_bck (q:=2) (by decide),trivial⟩)⟩),⟨hk,rfl,rfl⟩,by show n - 3<n - 2;omega⟩
     ·have hb:s.testBit 2=true:=by have:=(bit_eq0 s 2).symm.trans g2;simpa using this
      refine VSt.go tb_ok false [] 200 rfl (AllP.c (by omega) (AllP.c ‹_› (AllP.c (by omega) (AllP.c ‹_› AllP.n)))) ?_
      refine VSt.cond rfl (fun g3=>?_) (fun g3=>?_)
      ·have h0:Nat.beq (restB s 2) 0=true:=(nat_eq0 _).symm.trans g3
       refine VSt.go tb_ok false [] 200 rfl (AllP.c ‹_› (AllP.c rfl (AllP.c ‹_› (AllP.c rfl (AllP.c rfl (AllP.c rfl (AllP.c ‹_› (AllP.c rfl (AllP.c (by omega) (AllP.c rfl (AllP.c (Nat.le_refl _) (AllP.c (by unfold inR;(try simp only [Int.ofNat_eq_natCast]);omega) AllP.n)))))))))))) ?_
       refine ⟨3,_,_,(by refine Wk.vw (ps:=[(16,16),(15,15),(14,14),(13,13),(12,12),(11,11),(10,10),(1,1)]) ⟨rfl,rfl,(by repeat (first | exact wf_nil | refine wf_back rfl rfl rfl ?_)),_,rfl,(⟨rfl,rowS 2 (by decide),rfl,rowS 2 (by decide),rfl,rowS 2 (by decide),rfl,rowS 2 (by decide),rfl,rowV_new (blt_t hk) (fun x _=>row_zero (c:=c) (n:=n) (q:=2) hb h0 x),rfl,rowS 2 (by decide),rfl,rowS 2 (by decide),rfl,exs_bck (q:=2) (by decide),trivial⟩)⟩),⟨hk,rfl,rfl⟩,by show n - 3<n - 2;omega⟩
      ·have h0:Nat.beq (restB s 2) 0=false:=(nat_eq0 _).symm.trans g3
       have hr0:0<restB s 2:=by cases hx:restB s 2 with | zero=>rw [hx] at h0;cases h0 | succ y=>omega
       refine VSt.go tb_ok false [] 200 rfl (AllP.c ‹_› (AllP.c rfl (AllP.c ‹_› (AllP.c rfl (AllP.c rfl (AllP.c rfl AllP.n)))))) ?_
       refine vbuildD (a:=.agg [nv 2,nv (restB s 2)]) tb_ok rfl rfl rfl rfl ?_
       refine VSt.lookD (first:=[]) (cap:=[]) (args:=[treeV n c,.p (tabP n (2 ^ n) (curF c n s 2)),.agg [nv 2,nv (restB s 2)]]) (g:=106) (Vw.table (i:=1) (n:=n) (m:=2 ^ n) (G:=curF c n s 2) (F0:=[(67,treeV n c),(68,.p (tabP n (2 ^ n) (curF c n s 2))),(71,.agg [nv 2,nv (restB s 2)])]) rfl (fun v hv=>?_) (tfK rfl rfl (tfT rfl (tfK rfl rfl tf_nil)))) rfl rfl rfl rfl rfl rfl rfl (split_ok hn hk hr0 (Nat.lt_trans (rest_lt hb) hs1) hc (cur_bd (fun i k=>(hc i k).1) s 2)).2 (fun a L' h=>?_) ?_
       ·refine match v,hv with
         | 0,hv=>⟨10,_,_,rfl,.inr (congrArg (fun w=>some (VB.oarr w (2 ^ n) 1 (fInts (midF c n s 2 0)) 3)) (blt_t hv)),fun _ _=>rfl⟩
         | 1,hv=>⟨11,_,_,rfl,.inr (congrArg (fun w=>some (VB.oarr w (2 ^ n) 1 (fInts (midF c n s 2 1)) 3)) (blt_t hv)),fun _ _=>rfl⟩
         | 2,hv=>⟨12,_,_,rfl,.inl rfl,fun x _=>row_cur x⟩
         | 3,hv=>⟨13,_,_,rfl,.inr (congrArg (fun w=>some (VB.oarr w (2 ^ n) 1 (fInts (midF c n s 2 3)) 3)) (blt_t hv)),fun _ _=>rfl⟩
         | 4,hv=>⟨14,_,_,rfl,.inr (congrArg (fun w=>some (VB.oarr w (2 ^ n) 1 (fInts (midF c n s 2 4)) 3)) (blt_t hv)),fun _ _=>rfl⟩
         | 5,hv=>⟨15,_,_,rfl,.inr (congrArg (fun w=>some (VB.oarr w (2 ^ n) 1 (fInts (midF c n s 2 5)) 3)) (blt_t hv)),fun _ _=>rfl⟩
         | 6,hv=>⟨16,_,_,rfl,.inr (congrArg (fun w=>some (VB.oarr w (2 ^ n) 1 (fInts (midF c n s 2 6)) 3)) (blt_t hv)),fun _ _=>rfl⟩
         | _+7,hv=>absurd hv (by omega)
       ·obtain ⟨rfl,rfl⟩:=h
        exact ⟨rfl,trivial⟩
       ·rintro a L' ⟨rfl,rfl⟩
        refine VSt.go tb_ok false [] 200 rfl (AllP.c ‹_› (AllP.c rfl (AllP.c (by omega) (AllP.c rfl (AllP.c (Nat.le_refl _) (AllP.c (by unfold inR;(try simp only [Int.ofNat_eq_natCast]);omega) AllP.n)))))) ?_
        refine ⟨3,_,_,(by refine Wk.vw (ps:=[(16,16),(15,15),(14,14),(13,13),(12,12),(11,11),(10,10),(1,1)]) ⟨rfl,rfl,(by repeat (first | exact wf_nil | refine wf_back rfl rfl rfl ?_)),_,rfl,(⟨rfl,rowS 2 (by decide),rfl,rowS 2 (by decide),rfl,rowS 2 (by decide),rfl,rowS 2 (by decide),rfl,rowV_new (blt_t hk) (fun x _=>row_split (c:=c) (n:=n) (q:=2) hb h0 x),rfl,rowS 2 (by decide),rfl,rowS 2 (by decide),rfl,exs_bck (q:=2) (by decide),trivial⟩)⟩),⟨hk,rfl,rfl⟩,by show n - 3<n - 2;omega⟩
    ·refine VSt.viewC (Vw.imp (L':=(up (tabL n (2 ^ n) ((3,.sl 13 1 0 (2 ^ n) (2 ^ n) 1)::exs (2 ^ n)) (fun v=>Nat.blt v n) (midF c n s 3)) 13 (.arr (2 ^ n) 1 (fInts (midF c n s 3 3)) 3))) ⟨rfl,BImp.refl _,rfl,BImp.refl _,rfl,BImp.refl _,rfl,BImp.oArr (blt_t hk) (fun _ _=>rfl),rfl,BImp.refl _,rfl,BImp.refl _,rfl,BImp.refl _,rfl,exs_fwd (q:=3) (by decide),trivial⟩) ?_
     have hbq:=hb1 3
     have hsq:1 <<< 3<9223372036854775808:=by decide
     refine VSt.go tb_ok false [] 200 rfl (AllP.c ‹_› (AllP.c rfl (AllP.c ‹_› (AllP.c rfl (AllP.c rfl (AllP.c rfl (AllP.c ‹_› (AllP.c rfl (AllP.c (by omega) (AllP.c rfl (AllP.c (Nat.le_refl _) (AllP.c (by omega) (AllP.c ‹_› (AllP.c (by show 1<_;omega) AllP.n)))))))))))))) ?_
     refine VSt.cond rfl (fun g2=>?_) (fun g2=>?_)
     ·have hb:s.testBit 3=false:=by have:=(bit_eq0 s 3).symm.trans g2;simpa using this
      refine VSt.go tb_ok false [] 200 rfl (AllP.c (by unfold inR;(try simp only [Int.ofNat_eq_natCast]);omega) AllP.n) ?_
      refine ⟨4,_,_,(by refine Wk.vw (ps:=[(16,16),(15,15),(14,14),(13,13),(12,12),(11,11),(10,10),(1,1)]) ⟨rfl,rfl,(by repeat (first | exact wf_nil | refine wf_back rfl rfl rfl ?_)),_,rfl,(⟨rfl,rowS 3 (by decide),rfl,rowS 3 (by decide),rfl,rowS 3 (by decide),rfl,rowV_new (blt_t hk) (fun x _=>row_far (c:=c) (n:=n) (q:=3) hb x),rfl,rowS 3 (by decide),rfl,rowS 3 (by decide),rfl,rowS 3 (by decide),rfl,exs_bck (q:=3) (by decide),trivial⟩)⟩),⟨hk,rfl,rfl⟩,by show n - 4<n - 3;omega⟩
     ·have hb:s.testBit 3=true:=by have:=(bit_eq0 s 3).symm.trans g2;simpa using this
      refine VSt.go tb_ok false [] 200 rfl (AllP.c (by omega) (AllP.c ‹_› (AllP.c (by omega) (AllP.c ‹_› AllP.n)))) ?_
      refine VSt.cond rfl (fun g3=>?_) (fun g3=>?_)
      ·have h0:Nat.beq (restB s 3) 0=true:=(nat_eq0 _).symm.trans g3
       refine VSt.go tb_ok false [] 200 rfl (AllP.c ‹_› (AllP.c rfl (AllP.c ‹_› (AllP.c rfl (AllP.c rfl (AllP.c rfl (AllP.c ‹_› (AllP.c rfl (AllP.c (by omega) (AllP.c rfl (AllP.c (Nat.le_refl _) (AllP.c (by unfold inR;(try simp only [Int.ofNat_eq_natCast]);omega) AllP.n)))))))))))) ?_
       refine ⟨4,_,_,(by refine Wk.vw (ps:=[(16,16),(15,15),(14,14),(13,13),(12,12),(11,11),(10,10),(1,1)]) ⟨rfl,rfl,(by repeat (first | exact wf_nil | refine wf_back rfl rfl rfl ?_)),_,rfl,(⟨rfl,rowS 3 (by decide),rfl,rowS 3 (by decide),rfl,rowS 3 (by decide),rfl,rowV_new (blt_t hk) (fun x _=>row_zero (c:=c) (n:=n) (q:=3) hb h0 x),rfl,rowS 3 (by decide),rfl,rowS 3 (by decide),rfl,rowS 3 (by decide),rfl,exs_bck (q:=3) (by decide),trivial⟩)⟩),⟨hk,rfl,rfl⟩,by show n - 4<n - 3;omega⟩
      ·have h0:Nat.beq (restB s 3) 0=false:=(nat_eq0 _).symm.trans g3
       have hr0:0<restB s 3:=by cases hx:restB s 3 with | zero=>rw [hx] at h0;cases h0 | succ y=>omega
       refine VSt.go tb_ok false [] 200 rfl (AllP.c ‹_› (AllP.c rfl (AllP.c ‹_› (AllP.c rfl (AllP.c rfl (AllP.c rfl AllP.n)))))) ?_
       refine vbuildD (a:=.agg [nv 3,nv (restB s 3)]) tb_ok rfl rfl rfl rfl ?_
       refine VSt.lookD (first:=[]) (cap:=[]) (args:=[treeV n c,.p (tabP n (2 ^ n) (curF c n s 3)),.agg [nv 3,nv (restB s 3)]]) (g:=106) (Vw.table (i:=1) (n:=n) (m:=2 ^ n) (G:=curF c n s 3) (F0:=[(67,treeV n c),(68,.p (tabP n (2 ^ n) (curF c n s 3))),(71,.agg [nv 3,nv (restB s 3)])]) rfl (fun v hv=>?_) (tfK rfl rfl (tfT rfl (tfK rfl rfl tf_nil)))) rfl rfl rfl rfl rfl rfl rfl (split_ok hn hk hr0 (Nat.lt_trans (rest_lt hb) hs1) hc (cur_bd (fun i k=>(hc i k).1) s 3)).2 (fun a L' h=>?_) ?_
       ·refine match v,hv with
         | 0,hv=>⟨10,_,_,rfl,.inr (congrArg (fun w=>some (VB.oarr w (2 ^ n) 1 (fInts (midF c n s 3 0)) 3)) (blt_t hv)),fun _ _=>rfl⟩
         | 1,hv=>⟨11,_,_,rfl,.inr (congrArg (fun w=>some (VB.oarr w (2 ^ n) 1 (fInts (midF c n s 3 1)) 3)) (blt_t hv)),fun _ _=>rfl⟩
         | 2,hv=>⟨12,_,_,rfl,.inr (congrArg (fun w=>some (VB.oarr w (2 ^ n) 1 (fInts (midF c n s 3 2)) 3)) (blt_t hv)),fun _ _=>rfl⟩
         | 3,hv=>⟨13,_,_,rfl,.inl rfl,fun x _=>row_cur x⟩
         | 4,hv=>⟨14,_,_,rfl,.inr (congrArg (fun w=>some (VB.oarr w (2 ^ n) 1 (fInts (midF c n s 3 4)) 3)) (blt_t hv)),fun _ _=>rfl⟩
         | 5,hv=>⟨15,_,_,rfl,.inr (congrArg (fun w=>some (VB.oarr w (2 ^ n) 1 (fInts (midF c n s 3 5)) 3)) (blt_t hv)),fun _ _=>rfl⟩
         | 6,hv=>⟨16,_,_,rfl,.inr (congrArg (fun w=>some (VB.oarr w (2 ^ n) 1 (fInts (midF c n s 3 6)) 3)) (blt_t hv)),fun _ _=>rfl⟩
         | _+7,hv=>absurd hv (by omega)
       ·obtain ⟨rfl,rfl⟩:=h
        exact ⟨rfl,trivial⟩
       ·rintro a L' ⟨rfl,rfl⟩
        refine VSt.go tb_ok false [] 200 rfl (AllP.c ‹_› (AllP.c rfl (AllP.c (by omega) (AllP.c rfl (AllP.c (Nat.le_refl _) (AllP.c (by unfold inR;(try simp only [Int.ofNat_eq_natCast]);omega) AllP.n)))))) ?_
        refine ⟨4,_,_,(by refine Wk.vw (ps:=[(16,16),(15,15),(14,14),(13,13),(12,12),(11,11),(10,10),(1,1)]) ⟨rfl,rfl,(by repeat (first | exact wf_nil | refine wf_back rfl rfl rfl ?_)),_,rfl,(⟨rfl,rowS 3 (by decide),rfl,rowS 3 (by decide),rfl,rowS 3 (by decide),rfl,rowV_new (blt_t hk) (fun x _=>row_split (c:=c) (n:=n) (q:=3) hb h0 x),rfl,rowS 3 (by decide),rfl,rowS 3 (by decide),rfl,rowS 3 (by decide),rfl,exs_bck (q:=3) (by decide),trivial⟩)⟩),⟨hk,rfl,rfl⟩,by show n - 4<n - 3;omega⟩
    ·refine VSt.viewC (Vw.imp (L':=(up (tabL n (2 ^ n) ((4,.sl 14 1 0 (2 ^ n) (2 ^ n) 1)::exs (2 ^ n)) (fun v=>Nat.blt v n) (midF c n s 4)) 14 (.arr (2 ^ n) 1 (fInts (midF c n s 4 4)) 3))) ⟨rfl,BImp.refl _,rfl,BImp.refl _,rfl,BImp.oArr (blt_t hk) (fun _ _=>rfl),rfl,BImp.refl _,rfl,BImp.refl _,rfl,BImp.refl _,rfl,BImp.refl _,rfl,exs_fwd (q:=4) (by decide),trivial⟩) ?_
     have hbq:=hb1 4
     have hsq:1 <<< 4<9223372036854775808:=by decide
     refine VSt.go tb_ok false [] 200 rfl (AllP.c ‹_› (AllP.c rfl (AllP.c ‹_› (AllP.c rfl (AllP.c rfl (AllP.c rfl (AllP.c ‹_› (AllP.c rfl (AllP.c (by omega) (AllP.c rfl (AllP.c (Nat.le_refl _) (AllP.c (by omega) (AllP.c ‹_› (AllP.c (by show 1<_;omega) AllP.n)))))))))))))) ?_
     refine VSt.cond rfl (fun g2=>?_) (fun g2=>?_)
     ·have hb:s.testBit 4=false:=by have:=(bit_eq0 s 4).symm.trans g2;simpa using this
      refine VSt.go tb_ok false [] 200 rfl (AllP.c (by unfold inR;(try simp only [Int.ofNat_eq_natCast]);omega) AllP.n) ?_
      refine ⟨5,_,_,(by refine Wk.vw (ps:=[(16,16),(15,15),(14,14),(13,13),(12,12),(11,11),(10,10),(1,1)]) ⟨rfl,rfl,(by repeat (first | exact wf_nil | refine wf_back rfl rfl rfl ?_)),_,rfl,(⟨rfl,rowS 4 (by decide),rfl,rowS 4 (by decide),rfl,rowV_new (blt_t hk) (fun x _=>row_far (c:=c) (n:=n) (q:=4) hb x),rfl,rowS 4 (by decide),rfl,rowS 4 (by decide),rfl,rowS 4 (by decide),rfl,rowS 4 (by decide),rfl,exs_bck (q:=4) (by decide),trivial⟩)⟩),⟨hk,rfl,rfl⟩,by show n - 5<n - 4;omega⟩
     ·have hb:s.testBit 4=true:=by have:=(bit_eq0 s 4).symm.trans g2;simpa using this
      refine VSt.go tb_ok false [] 200 rfl (AllP.c (by omega) (AllP.c ‹_› (AllP.c (by omega) (AllP.c ‹_› AllP.n)))) ?_
      refine VSt.cond rfl (fun g3=>?_) (fun g3=>?_)
      ·have h0:Nat.beq (restB s 4) 0=true:=(nat_eq0 _).symm.trans g3
       refine VSt.go tb_ok false [] 200 rfl (AllP.c ‹_› (AllP.c rfl (AllP.c ‹_› (AllP.c rfl (AllP.c rfl (AllP.c rfl (AllP.c ‹_› (AllP.c rfl (AllP.c (by omega) (AllP.c rfl (AllP.c (Nat.le_refl _) (AllP.c (by unfold inR;(try simp only [Int.ofNat_eq_natCast]);omega) AllP.n)))))))))))) ?_
       refine ⟨5,_,_,(by refine Wk.vw (ps:=[(16,16),(15,15),(14,14),(13,13),(12,12),(11,11),(10,10),(1,1)]) ⟨rfl,rfl,(by repeat (first | exact wf_nil | refine wf_back rfl rfl rfl ?_)),_,rfl,(⟨rfl,rowS 4 (by decide),rfl,rowS 4 (by decide),rfl,rowV_new (blt_t hk) (fun x _=>row_zero (c:=c) (n:=n) (q:=4) hb h0 x),rfl,rowS 4 (by decide),rfl,rowS 4 (by decide),rfl,rowS 4 (by decide),rfl,rowS 4 (by decide),rfl,exs_bck (q:=4) (by decide),trivial⟩)⟩),⟨hk,rfl,rfl⟩,by show n - 5<n - 4;omega⟩
      ·have h0:Nat.beq (restB s 4) 0=false:=(nat_eq0 _).symm.trans g3
       have hr0:0<restB s 4:=by cases hx:restB s 4 with | zero=>rw [hx] at h0;cases h0 | succ y=>omega
       refine VSt.go tb_ok false [] 200 rfl (AllP.c ‹_› (AllP.c rfl (AllP.c ‹_› (AllP.c rfl (AllP.c rfl (AllP.c rfl AllP.n)))))) ?_
       refine vbuildD (a:=.agg [nv 4,nv (restB s 4)]) tb_ok rfl rfl rfl rfl ?_
       refine VSt.lookD (first:=[]) (cap:=[]) (args:=[treeV n c,.p (tabP n (2 ^ n) (curF c n s 4)),.agg [nv 4,nv (restB s 4)]]) (g:=106) (Vw.table (i:=1) (n:=n) (m:=2 ^ n) (G:=curF c n s 4) (F0:=[(67,treeV n c),(68,.p (tabP n (2 ^ n) (curF c n s 4))),(71,.agg [nv 4,nv (restB s 4)])]) rfl (fun v hv=>?_) (tfK rfl rfl (tfT rfl (tfK rfl rfl tf_nil)))) rfl rfl rfl rfl rfl rfl rfl (split_ok hn hk hr0 (Nat.lt_trans (rest_lt hb) hs1) hc (cur_bd (fun i k=>(hc i k).1) s 4)).2 (fun a L' h=>?_) ?_
       ·refine match v,hv with
         | 0,hv=>⟨10,_,_,rfl,.inr (congrArg (fun w=>some (VB.oarr w (2 ^ n) 1 (fInts (midF c n s 4 0)) 3)) (blt_t hv)),fun _ _=>rfl⟩
         | 1,hv=>⟨11,_,_,rfl,.inr (congrArg (fun w=>some (VB.oarr w (2 ^ n) 1 (fInts (midF c n s 4 1)) 3)) (blt_t hv)),fun _ _=>rfl⟩
         | 2,hv=>⟨12,_,_,rfl,.inr (congrArg (fun w=>some (VB.oarr w (2 ^ n) 1 (fInts (midF c n s 4 2)) 3)) (blt_t hv)),fun _ _=>rfl⟩
         | 3,hv=>⟨13,_,_,rfl,.inr (congrArg (fun w=>some (VB.oarr w (2 ^ n) 1 (fInts (midF c n s 4 3)) 3)) (blt_t hv)),fun _ _=>rfl⟩
         | 4,hv=>⟨14,_,_,rfl,.inl rfl,fun x _=>row_cur x⟩
         | 5,hv=>⟨15,_,_,rfl,.inr (congrArg (fun w=>some (VB.oarr w (2 ^ n) 1 (fInts (midF c n s 4 5)) 3)) (blt_t hv)),fun _ _=>rfl⟩
         | 6,hv=>⟨16,_,_,rfl,.inr (congrArg (fun w=>some (VB.oarr w (2 ^ n) 1 (fInts (midF c n s 4 6)) 3)) (blt_t hv)),fun _ _=>rfl⟩
         | _+7,hv=>absurd hv (by omega)
       ·obtain ⟨rfl,rfl⟩:=h
        exact ⟨rfl,trivial⟩
       ·rintro a L' ⟨rfl,rfl⟩
        refine VSt.go tb_ok false [] 200 rfl (AllP.c ‹_› (AllP.c rfl (AllP.c (by omega) (AllP.c rfl (AllP.c (Nat.le_refl _) (AllP.c (by unfold inR;(try simp only [Int.ofNat_eq_natCast]);omega) AllP.n)))))) ?_
        refine ⟨5,_,_,(by refine Wk.vw (ps:=[(16,16),(15,15),(14,14),(13,13),(12,12),(11,11),(10,10),(1,1)]) ⟨rfl,rfl,(by repeat (first | exact wf_nil | refine wf_back rfl rfl rfl ?_)),_,rfl,(⟨rfl,rowS 4 (by decide),rfl,rowS 4 (by decide),rfl,rowV_new (blt_t hk) (fun x _=>row_split (c:=c) (n:=n) (q:=4) hb h0 x),rfl,rowS 4 (by decide),rfl,rowS 4 (by decide),rfl,rowS 4 (by decide),rfl,rowS 4 (by decide),rfl,exs_bck (q:=4) (by decide),trivial⟩)⟩),⟨hk,rfl,rfl⟩,by show n - 5<n - 4;omega⟩
    ·refine VSt.viewC (Vw.imp (L':=(up (tabL n (2 ^ n) ((5,.sl 15 1 0 (2 ^ n) (2 ^ n) 1)::exs (2 ^ n)) (fun v=>Nat.blt v n) (midF c n s 5)) 15 (.arr (2 ^ n) 1 (fInts (midF c n s 5 5)) 3))) ⟨rfl,BImp.refl _,rfl,BImp.oArr (blt_t hk) (fun _ _=>rfl),rfl,BImp.refl _,rfl,BImp.refl _,rfl,BImp.refl _,rfl,BImp.refl _,rfl,BImp.refl _,rfl,exs_fwd (q:=5) (by decide),trivial⟩) ?_
     have hbq:=hb1 5
     have hsq:1 <<< 5<9223372036854775808:=by decide
     refine VSt.go tb_ok false [] 200 rfl (AllP.c ‹_› (AllP.c rfl (AllP.c ‹_› (AllP.c rfl (AllP.c rfl (AllP.c rfl (AllP.c ‹_› (AllP.c rfl (AllP.c (by omega) (AllP.c rfl (AllP.c (Nat.le_refl _) (AllP.c (by omega) (AllP.c ‹_› (AllP.c (by show 1<_;omega) AllP.n)))))))))))))) ?_
     refine VSt.cond rfl (fun g2=>?_) (fun g2=>?_)
     ·have hb:s.testBit 5=false:=by have:=(bit_eq0 s 5).symm.trans g2;simpa using this
      refine VSt.go tb_ok false [] 200 rfl (AllP.c (by unfold inR;(try simp only [Int.ofNat_eq_natCast]);omega) AllP.n) ?_
      refine ⟨6,_,_,(by refine Wk.vw (ps:=[(16,16),(15,15),(14,14),(13,13),(12,12),(11,11),(10,10),(1,1)]) ⟨rfl,rfl,(by repeat (first | exact wf_nil | refine wf_back rfl rfl rfl ?_)),_,rfl,(⟨rfl,rowS 5 (by decide),rfl,rowV_new (blt_t hk) (fun x _=>row_far (c:=c) (n:=n) (q:=5) hb x),rfl,rowS 5 (by decide),rfl,rowS 5 (by decide),rfl,rowS 5 (by decide),rfl,rowS 5 (by decide),rfl,rowS 5 (by decide),rfl,exs_bck (q:=5) (by decide),trivial⟩)⟩),⟨hk,rfl,rfl⟩,by show n - 6<n - 5;omega⟩
     ·have hb:s.testBit 5=true:=by have:=(bit_eq0 s 5).symm.trans g2;simpa using this
      refine VSt.go tb_ok false [] 200 rfl (AllP.c (by omega) (AllP.c ‹_› (AllP.c (by omega) (AllP.c ‹_› AllP.n)))) ?_
      refine VSt.cond rfl (fun g3=>?_) (fun g3=>?_)
      ·have h0:Nat.beq (restB s 5) 0=true:=(nat_eq0 _).symm.trans g3
       refine VSt.go tb_ok false [] 200 rfl (AllP.c ‹_› (AllP.c rfl (AllP.c ‹_› (AllP.c rfl (AllP.c rfl (AllP.c rfl (AllP.c ‹_› (AllP.c rfl (AllP.c (by omega) (AllP.c rfl (AllP.c (Nat.le_refl _) (AllP.c (by unfold inR;(try simp only [Int.ofNat_eq_natCast]);omega) AllP.n)))))))))))) ?_
       refine ⟨6,_,_,(by refine Wk.vw (ps:=[(16,16),(15,15),(14,14),(13,13),(12,12),(11,11),(10,10),(1,1)]) ⟨rfl,rfl,(by repeat (first | exact wf_nil | refine wf_back rfl rfl rfl ?_)),_,rfl,(⟨rfl,rowS 5 (by decide),rfl,rowV_new (blt_t hk) (fun x _=>row_zero (c:=c) (n:=n) (q:=5) hb h0 x),rfl,rowS 5 (by decide),rfl,rowS 5 (by decide),rfl,rowS 5 (by decide),rfl,rowS 5 (by decide),rfl,rowS 5 (by decide),rfl,exs_bck (q:=5) (by decide),trivial⟩)⟩),⟨hk,rfl,rfl⟩,by show n - 6<n - 5;omega⟩
      ·have h0:Nat.beq (restB s 5) 0=false:=(nat_eq0 _).symm.trans g3
       have hr0:0<restB s 5:=by cases hx:restB s 5 with | zero=>rw [hx] at h0;cases h0 | succ y=>omega
       refine VSt.go tb_ok false [] 200 rfl (AllP.c ‹_› (AllP.c rfl (AllP.c ‹_› (AllP.c rfl (AllP.c rfl (AllP.c rfl AllP.n)))))) ?_
       refine vbuildD (a:=.agg [nv 5,nv (restB s 5)]) tb_ok rfl rfl rfl rfl ?_
       refine VSt.lookD (first:=[]) (cap:=[]) (args:=[treeV n c,.p (tabP n (2 ^ n) (curF c n s 5)),.agg [nv 5,nv (restB s 5)]]) (g:=106) (Vw.table (i:=1) (n:=n) (m:=2 ^ n) (G:=curF c n s 5) (F0:=[(67,treeV n c),(68,.p (tabP n (2 ^ n) (curF c n s 5))),(71,.agg [nv 5,nv (restB s 5)])]) rfl (fun v hv=>?_) (tfK rfl rfl (tfT rfl (tfK rfl rfl tf_nil)))) rfl rfl rfl rfl rfl rfl rfl (split_ok hn hk hr0 (Nat.lt_trans (rest_lt hb) hs1) hc (cur_bd (fun i k=>(hc i k).1) s 5)).2 (fun a L' h=>?_) ?_
       ·refine match v,hv with
         | 0,hv=>⟨10,_,_,rfl,.inr (congrArg (fun w=>some (VB.oarr w (2 ^ n) 1 (fInts (midF c n s 5 0)) 3)) (blt_t hv)),fun _ _=>rfl⟩
         | 1,hv=>⟨11,_,_,rfl,.inr (congrArg (fun w=>some (VB.oarr w (2 ^ n) 1 (fInts (midF c n s 5 1)) 3)) (blt_t hv)),fun _ _=>rfl⟩
         | 2,hv=>⟨12,_,_,rfl,.inr (congrArg (fun w=>some (VB.oarr w (2 ^ n) 1 (fInts (midF c n s 5 2)) 3)) (blt_t hv)),fun _ _=>rfl⟩
         | 3,hv=>⟨13,_,_,rfl,.inr (congrArg (fun w=>some (VB.oarr w (2 ^ n) 1 (fInts (midF c n s 5 3)) 3)) (blt_t hv)),fun _ _=>rfl⟩
         | 4,hv=>⟨14,_,_,rfl,.inr (congrArg (fun w=>some (VB.oarr w (2 ^ n) 1 (fInts (midF c n s 5 4)) 3)) (blt_t hv)),fun _ _=>rfl⟩
         | 5,hv=>⟨15,_,_,rfl,.inl rfl,fun x _=>row_cur x⟩
         | 6,hv=>⟨16,_,_,rfl,.inr (congrArg (fun w=>some (VB.oarr w (2 ^ n) 1 (fInts (midF c n s 5 6)) 3)) (blt_t hv)),fun _ _=>rfl⟩
         | _+7,hv=>absurd hv (by omega)
       ·obtain ⟨rfl,rfl⟩:=h
        exact ⟨rfl,trivial⟩
       ·rintro a L' ⟨rfl,rfl⟩
        refine VSt.go tb_ok false [] 200 rfl (AllP.c ‹_› (AllP.c rfl (AllP.c (by omega) (AllP.c rfl (AllP.c (Nat.le_refl _) (AllP.c (by unfold inR;(try simp only [Int.ofNat_eq_natCast]);omega) AllP.n)))))) ?_
        refine ⟨6,_,_,(by refine Wk.vw (ps:=[(16,16),(15,15),(14,14),(13,13),(12,12),(11,11),(10,10),(1,1)]) ⟨rfl,rfl,(by repeat (first | exact wf_nil | refine wf_back rfl rfl rfl ?_)),_,rfl,(⟨rfl,rowS 5 (by decide),rfl,rowV_new (blt_t hk) (fun x _=>row_split (c:=c) (n:=n) (q:=5) hb h0 x),rfl,rowS 5 (by decide),rfl,rowS 5 (by decide),rfl,rowS 5 (by decide),rfl,rowS 5 (by decide),rfl,rowS 5 (by decide),rfl,exs_bck (q:=5) (by decide),trivial⟩)⟩),⟨hk,rfl,rfl⟩,by show n - 6<n - 5;omega⟩
    ·refine VSt.viewC (Vw.imp (L':=(up (tabL n (2 ^ n) ((6,.sl 16 1 0 (2 ^ n) (2 ^ n) 1)::exs (2 ^ n)) (fun v=>Nat.blt v n) (midF c n s 6)) 16 (.arr (2 ^ n) 1 (fInts (midF c n s 6 6)) 3))) ⟨rfl,BImp.oArr (blt_t hk) (fun _ _=>rfl),rfl,BImp.refl _,rfl,BImp.refl _,rfl,BImp.refl _,rfl,BImp.refl _,rfl,BImp.refl _,rfl,BImp.refl _,rfl,exs_fwd (q:=6) (by decide),trivial⟩) ?_
     have hbq:=hb1 6
     have hsq:1 <<< 6<9223372036854775808:=by decide
     refine VSt.go tb_ok false [] 200 rfl (AllP.c ‹_› (AllP.c rfl (AllP.c ‹_› (AllP.c rfl (AllP.c rfl (AllP.c rfl (AllP.c ‹_› (AllP.c rfl (AllP.c (by omega) (AllP.c rfl (AllP.c (Nat.le_refl _) (AllP.c (by omega) (AllP.c ‹_› (AllP.c (by show 1<_;omega) AllP.n)))))))))))))) ?_
     refine VSt.cond rfl (fun g2=>?_) (fun g2=>?_)
     ·have hb:s.testBit 6=false:=by have:=(bit_eq0 s 6).symm.trans g2;simpa using this
      refine VSt.go tb_ok false [] 200 rfl (AllP.c (by unfold inR;(try simp only [Int.ofNat_eq_natCast]);omega) AllP.n) ?_
      refine ⟨7,_,_,(by refine Wk.vw (ps:=[(16,16),(15,15),(14,14),(13,13),(12,12),(11,11),(10,10),(1,1)]) ⟨rfl,rfl,(by repeat (first | exact wf_nil | refine wf_back rfl rfl rfl ?_)),_,rfl,(⟨rfl,rowV_new (blt_t hk) (fun x _=>row_far (c:=c) (n:=n) (q:=6) hb x),rfl,rowS 6 (by decide),rfl,rowS 6 (by decide),rfl,rowS 6 (by decide),rfl,rowS 6 (by decide),rfl,rowS 6 (by decide),rfl,rowS 6 (by decide),rfl,exs_bck (q:=6) (by decide),trivial⟩)⟩),⟨hk,rfl,rfl⟩,by show n - 7<n - 6;omega⟩
     ·have hb:s.testBit 6=true:=by have:=(bit_eq0 s 6).symm.trans g2;simpa using this
      refine VSt.go tb_ok false [] 200 rfl (AllP.c (by omega) (AllP.c ‹_› (AllP.c (by omega) (AllP.c ‹_› AllP.n)))) ?_
      refine VSt.cond rfl (fun g3=>?_) (fun g3=>?_)
      ·have h0:Nat.beq (restB s 6) 0=true:=(nat_eq0 _).symm.trans g3
       refine VSt.go tb_ok false [] 200 rfl (AllP.c ‹_› (AllP.c rfl (AllP.c ‹_› (AllP.c rfl (AllP.c rfl (AllP.c rfl (AllP.c ‹_› (AllP.c rfl (AllP.c (by omega) (AllP.c rfl (AllP.c (Nat.le_refl _) (AllP.c (by unfold inR;(try simp only [Int.ofNat_eq_natCast]);omega) AllP.n)))))))))))) ?_
       refine ⟨7,_,_,(by refine Wk.vw (ps:=[(16,16),(15,15),(14,14),(13,13),(12,12),(11,11),(10,10),(1,1)]) ⟨rfl,rfl,(by repeat (first | exact wf_nil | refine wf_back rfl rfl rfl ?_)),_,rfl,(⟨rfl,rowV_new (blt_t hk) (fun x _=>row_zero (c:=c) (n:=n) (q:=6) hb h0 x),rfl,rowS 6 (by decide),rfl,rowS 6 (by decide),rfl,rowS 6 (by decide),rfl,rowS 6 (by decide),rfl,rowS 6 (by decide),rfl,rowS 6 (by decide),rfl,exs_bck (q:=6) (by decide),trivial⟩)⟩),⟨hk,rfl,rfl⟩,by show n - 7<n - 6;omega⟩
      ·have h0:Nat.beq (restB s 6) 0=false:=(nat_eq0 _).symm.trans g3
       have hr0:0<restB s 6:=by cases hx:restB s 6 with | zero=>rw [hx] at h0;cases h0 | succ y=>omega
       refine VSt.go tb_ok false [] 200 rfl (AllP.c ‹_› (AllP.c rfl (AllP.c ‹_› (AllP.c rfl (AllP.c rfl (AllP.c rfl AllP.n)))))) ?_
       refine vbuildD (a:=.agg [nv 6,nv (restB s 6)]) tb_ok rfl rfl rfl rfl ?_
       refine VSt.lookD (first:=[]) (cap:=[]) (args:=[treeV n c,.p (tabP n (2 ^ n) (curF c n s 6)),.agg [nv 6,nv (restB s 6)]]) (g:=106) (Vw.table (i:=1) (n:=n) (m:=2 ^ n) (G:=curF c n s 6) (F0:=[(67,treeV n c),(68,.p (tabP n (2 ^ n) (curF c n s 6))),(71,.agg [nv 6,nv (restB s 6)])]) rfl (fun v hv=>?_) (tfK rfl rfl (tfT rfl (tfK rfl rfl tf_nil)))) rfl rfl rfl rfl rfl rfl rfl (split_ok hn hk hr0 (Nat.lt_trans (rest_lt hb) hs1) hc (cur_bd (fun i k=>(hc i k).1) s 6)).2 (fun a L' h=>?_) ?_
       ·refine match v,hv with
         | 0,hv=>⟨10,_,_,rfl,.inr (congrArg (fun w=>some (VB.oarr w (2 ^ n) 1 (fInts (midF c n s 6 0)) 3)) (blt_t hv)),fun _ _=>rfl⟩
         | 1,hv=>⟨11,_,_,rfl,.inr (congrArg (fun w=>some (VB.oarr w (2 ^ n) 1 (fInts (midF c n s 6 1)) 3)) (blt_t hv)),fun _ _=>rfl⟩
         | 2,hv=>⟨12,_,_,rfl,.inr (congrArg (fun w=>some (VB.oarr w (2 ^ n) 1 (fInts (midF c n s 6 2)) 3)) (blt_t hv)),fun _ _=>rfl⟩
         | 3,hv=>⟨13,_,_,rfl,.inr (congrArg (fun w=>some (VB.oarr w (2 ^ n) 1 (fInts (midF c n s 6 3)) 3)) (blt_t hv)),fun _ _=>rfl⟩
         | 4,hv=>⟨14,_,_,rfl,.inr (congrArg (fun w=>some (VB.oarr w (2 ^ n) 1 (fInts (midF c n s 6 4)) 3)) (blt_t hv)),fun _ _=>rfl⟩
         | 5,hv=>⟨15,_,_,rfl,.inr (congrArg (fun w=>some (VB.oarr w (2 ^ n) 1 (fInts (midF c n s 6 5)) 3)) (blt_t hv)),fun _ _=>rfl⟩
         | 6,hv=>⟨16,_,_,rfl,.inl rfl,fun x _=>row_cur x⟩
         | _+7,hv=>absurd hv (by omega)
       ·obtain ⟨rfl,rfl⟩:=h
        exact ⟨rfl,trivial⟩
       ·rintro a L' ⟨rfl,rfl⟩
        refine VSt.go tb_ok false [] 200 rfl (AllP.c ‹_› (AllP.c rfl (AllP.c (by omega) (AllP.c rfl (AllP.c (Nat.le_refl _) (AllP.c (by unfold inR;(try simp only [Int.ofNat_eq_natCast]);omega) AllP.n)))))) ?_
        refine ⟨7,_,_,(by refine Wk.vw (ps:=[(16,16),(15,15),(14,14),(13,13),(12,12),(11,11),(10,10),(1,1)]) ⟨rfl,rfl,(by repeat (first | exact wf_nil | refine wf_back rfl rfl rfl ?_)),_,rfl,(⟨rfl,rowV_new (blt_t hk) (fun x _=>row_split (c:=c) (n:=n) (q:=6) hb h0 x),rfl,rowS 6 (by decide),rfl,rowS 6 (by decide),rfl,rowS 6 (by decide),rfl,rowS 6 (by decide),rfl,rowS 6 (by decide),rfl,rowS 6 (by decide),rfl,exs_bck (q:=6) (by decide),trivial⟩)⟩),⟨hk,rfl,rfl⟩,by show n - 7<n - 6;omega⟩
   ·have hqn:n=q:=by have:=of_decide_eq_false gq;simp only [Int.ofNat_eq_natCast] at this;omega
    subst hqn
    refine VSt.go tb_ok false [] 200 rfl (AllP.c (by unfold inR;(try simp only [Int.ofNat_eq_natCast]);omega) AllP.n) ?_
    refine ⟨s+1,_,_,Vw.trans (F0:=[(1,.p (.fp [tabP n n c] 0)),(3,nv n),(4,.sl 1 1 0 n n 1),(6,nv (s+1))]) (L0:=tabL n (2 ^ n) (exs (2 ^ n)) (fun v=>Nat.blt v n) (midF c n s n)) (by refine Wk.vw (ps:=[(16,16),(15,15),(14,14),(13,13),(12,12),(11,11),(10,10),(1,1)]) ⟨rfl,rfl,(by repeat (first | exact wf_nil | refine wf_back rfl rfl rfl ?_)),_,rfl,((LImp.refl _))⟩) (Vw.impV (L':=tabL n (2 ^ n) (exs (2 ^ n)) (fun v=>Nat.blt v n) (tabM c n (s+1))) ⟨rfl,rowV_last hs0,rfl,rowV_last hs0,rfl,rowV_last hs0,rfl,rowV_last hs0,rfl,rowV_last hs0,rfl,rowV_last hs0,rfl,rowV_last hs0,rfl,.inl (BImp.refl _),trivial⟩),⟨Nat.succ_pos s,hs1,rfl,rfl⟩,by omega⟩
  ·have hsn:s=2 ^ n:=by have:=of_decide_eq_false g;simp only [Int.ofNat_eq_natCast] at this;omega
   subst hsn
   refine VSt.go tb_ok false [] 200 rfl (AllP.c (by omega) (AllP.c (by omega) AllP.n)) ?_
   refine VSt.rangeT tb_ok n (by omega) [3,4,9] (fun _=>[]) (fun k=>(17,.arr n 1 (fillR n (leastM c n) k) 3)::tabL n (2 ^ n) (exs (2 ^ n)) (fun v=>Nat.blt v n) (tabM c n (2 ^ n))) (fun _=>True) rfl rfl rfl (fun _=>rfl) rfl rfl u0_nil ⟨rfl,BImp.arr (fun _ _=>rfl),rfl,BImp.refl _,rfl,BImp.refl _,rfl,BImp.refl _,rfl,BImp.refl _,rfl,BImp.refl _,rfl,BImp.refl _,rfl,BImp.refl _,rfl,BImp.refl _,trivial⟩ trivial (fun k hk _=>?_) (fun _=>?_)
   ·refine match k,hk with
     | 0,hk=>?_
     | 1,hk=>?_
     | 2,hk=>?_
     | 3,hk=>?_
     | 4,hk=>?_
     | 5,hk=>?_
     | 6,hk=>?_
     | _+7,hk=>absurd hk (by omega)
    ·refine VSt.viewC (Vw.imp (L':=(17,.arr n 1 (fillR n (leastM c n) 0) 3)::(up (tabL n (2 ^ n) ((0,.sl 10 1 0 (2 ^ n) (2 ^ n) 1)::exs (2 ^ n)) (fun v=>Nat.blt v n) (tabM c n (2 ^ n))) 10 (.arr (2 ^ n) 1 (fInts (tabM c n (2 ^ n) 0)) 3))) ⟨rfl,BImp.refl _,rfl,BImp.refl _,rfl,BImp.refl _,rfl,BImp.refl _,rfl,BImp.refl _,rfl,BImp.refl _,rfl,BImp.refl _,rfl,BImp.oArr (blt_t hk) (fun _ _=>rfl),rfl,exs_fwd (q:=0) (by decide),trivial⟩) ?_
     refine VSt.go tb_ok false [89] 200 rfl (AllP.c ‹_› (AllP.c rfl (AllP.c ‹_› (AllP.c rfl (AllP.c rfl (AllP.c rfl (AllP.c (by omega) (AllP.c ‹_› AllP.n)))))))) ?_
     refine VSt.putD 88 (nv (2 ^ n)) rfl (iv_nv (by rw [Nat.one_shiftLeft])) ?_
     refine VSt.go tb_ok false [90] 200 rfl (AllP.c (by unfold inR;(try simp only [Int.ofNat_eq_natCast]);omega) AllP.n) ?_
     refine VSt.putD 89 (nv (2 ^ n - 1)) rfl (iv_nv (by simp only [Int.ofNat_eq_natCast];omega)) ?_
     refine VSt.go tb_ok false [] 200 rfl (AllP.c (by omega) (AllP.c rfl (AllP.c (by omega) (AllP.c rfl (AllP.c ‹_› (AllP.c rfl (AllP.c ‹_› (AllP.c rfl (AllP.c (Nat.le_refl _) AllP.n))))))))) ?_
     refine ⟨?_,trivial⟩
     refine Wk.vw (ps:=[(17,17),(16,16),(15,15),(14,14),(13,13),(12,12),(11,11),(10,10),(1,1)]) ⟨rfl,rfl,(by repeat (first | exact wf_nil | refine wf_back rfl rfl rfl ?_)),_,rfl,(⟨rfl,fillB (k:=0) (g:=leastM c n) (v:=tabM c n (2 ^ n) 0 (0+(2 ^ n - 1))) (by rw [Nat.zero_add];rfl),rfl,rowV_eq rfl (fun _=>rfl),rfl,rowV_eq rfl (fun _=>rfl),rfl,rowV_eq rfl (fun _=>rfl),rfl,rowV_eq rfl (fun _=>rfl),rfl,rowV_eq rfl (fun _=>rfl),rfl,rowV_eq rfl (fun _=>rfl),rfl,rowV_new (blt_t hk) (fun _ _=>rfl),rfl,exs_bck (q:=0) (by decide),trivial⟩)⟩
    ·refine VSt.viewC (Vw.imp (L':=(17,.arr n 1 (fillR n (leastM c n) 1) 3)::(up (tabL n (2 ^ n) ((1,.sl 11 1 0 (2 ^ n) (2 ^ n) 1)::exs (2 ^ n)) (fun v=>Nat.blt v n) (tabM c n (2 ^ n))) 11 (.arr (2 ^ n) 1 (fInts (tabM c n (2 ^ n) 1)) 3))) ⟨rfl,BImp.refl _,rfl,BImp.refl _,rfl,BImp.refl _,rfl,BImp.refl _,rfl,BImp.refl _,rfl,BImp.refl _,rfl,BImp.oArr (blt_t hk) (fun _ _=>rfl),rfl,BImp.refl _,rfl,exs_fwd (q:=1) (by decide),trivial⟩) ?_
     refine VSt.go tb_ok false [89] 200 rfl (AllP.c ‹_› (AllP.c rfl (AllP.c ‹_› (AllP.c rfl (AllP.c rfl (AllP.c rfl (AllP.c (by omega) (AllP.c ‹_› AllP.n)))))))) ?_
     refine VSt.putD 88 (nv (2 ^ n)) rfl (iv_nv (by rw [Nat.one_shiftLeft])) ?_
     refine VSt.go tb_ok false [90] 200 rfl (AllP.c (by unfold inR;(try simp only [Int.ofNat_eq_natCast]);omega) AllP.n) ?_
     refine VSt.putD 89 (nv (2 ^ n - 1)) rfl (iv_nv (by simp only [Int.ofNat_eq_natCast];omega)) ?_
     refine VSt.go tb_ok false [] 200 rfl (AllP.c (by omega) (AllP.c rfl (AllP.c (by omega) (AllP.c rfl (AllP.c ‹_› (AllP.c rfl (AllP.c ‹_› (AllP.c rfl (AllP.c (Nat.le_refl _) AllP.n))))))))) ?_
     refine ⟨?_,trivial⟩
     refine Wk.vw (ps:=[(17,17),(16,16),(15,15),(14,14),(13,13),(12,12),(11,11),(10,10),(1,1)]) ⟨rfl,rfl,(by repeat (first | exact wf_nil | refine wf_back rfl rfl rfl ?_)),_,rfl,(⟨rfl,fillB (k:=1) (g:=leastM c n) (v:=tabM c n (2 ^ n) 1 (0+(2 ^ n - 1))) (by rw [Nat.zero_add];rfl),rfl,rowV_eq rfl (fun _=>rfl),rfl,rowV_eq rfl (fun _=>rfl),rfl,rowV_eq rfl (fun _=>rfl),rfl,rowV_eq rfl (fun _=>rfl),rfl,rowV_eq rfl (fun _=>rfl),rfl,rowV_new (blt_t hk) (fun _ _=>rfl),rfl,rowV_eq rfl (fun _=>rfl),rfl,exs_bck (q:=1) (by decide),trivial⟩)⟩
    ·refine VSt.viewC (Vw.imp (L':=(17,.arr n 1 (fillR n (leastM c n) 2) 3)::(up (tabL n (2 ^ n) ((2,.sl 12 1 0 (2 ^ n) (2 ^ n) 1)::exs (2 ^ n)) (fun v=>Nat.blt v n) (tabM c n (2 ^ n))) 12 (.arr (2 ^ n) 1 (fInts (tabM c n (2 ^ n) 2)) 3))) ⟨rfl,BImp.refl _,rfl,BImp.refl _,rfl,BImp.refl _,rfl,BImp.refl _,rfl,BImp.refl _,rfl,BImp.oArr (blt_t hk) (fun _ _=>rfl),rfl,BImp.refl _,rfl,BImp.refl _,rfl,exs_fwd (q:=2) (by decide),trivial⟩) ?_
     refine VSt.go tb_ok false [89] 200 rfl (AllP.c ‹_› (AllP.c rfl (AllP.c ‹_› (AllP.c rfl (AllP.c rfl (AllP.c rfl (AllP.c (by omega) (AllP.c ‹_› AllP.n)))))))) ?_
     refine VSt.putD 88 (nv (2 ^ n)) rfl (iv_nv (by rw [Nat.one_shiftLeft])) ?_
     refine VSt.go tb_ok false [90] 200 rfl (AllP.c (by unfold inR;(try simp only [Int.ofNat_eq_natCast]);omega) AllP.n) ?_
     refine VSt.putD 89 (nv (2 ^ n - 1)) rfl (iv_nv (by simp only [Int.ofNat_eq_natCast];omega)) ?_
     refine VSt.go tb_ok false [] 200 rfl (AllP.c (by omega) (AllP.c rfl (AllP.c (by omega) (AllP.c rfl (AllP.c ‹_› (AllP.c rfl (AllP.c ‹_› (AllP.c rfl (AllP.c (Nat.le_refl _) AllP.n))))))))) ?_
     refine ⟨?_,trivial⟩
     refine Wk.vw (ps:=[(17,17),(16,16),(15,15),(14,14),(13,13),(12,12),(11,11),(10,10),(1,1)]) ⟨rfl,rfl,(by repeat (first | exact wf_nil | refine wf_back rfl rfl rfl ?_)),_,rfl,(⟨rfl,fillB (k:=2) (g:=leastM c n) (v:=tabM c n (2 ^ n) 2 (0+(2 ^ n - 1))) (by rw [Nat.zero_add];rfl),rfl,rowV_eq rfl (fun _=>rfl),rfl,rowV_eq rfl (fun _=>rfl),rfl,rowV_eq rfl (fun _=>rfl),rfl,rowV_eq rfl (fun _=>rfl),rfl,rowV_new (blt_t hk) (fun _ _=>rfl),rfl,rowV_eq rfl (fun _=>rfl),rfl,rowV_eq rfl (fun _=>rfl),rfl,exs_bck (q:=2) (by decide),trivial⟩)⟩
    ·refine VSt.viewC (Vw.imp (L':=(17,.arr n 1 (fillR n (leastM c n) 3) 3)::(up (tabL n (2 ^ n) ((3,.sl 13 1 0 (2 ^ n) (2 ^ n) 1)::exs (2 ^ n)) (fun v=>Nat.blt v n) (tabM c n (2 ^ n))) 13 (.arr (2 ^ n) 1 (fInts (tabM c n (2 ^ n) 3)) 3))) ⟨rfl,BImp.refl _,rfl,BImp.refl _,rfl,BImp.refl _,rfl,BImp.refl _,rfl,BImp.oArr (blt_t hk) (fun _ _=>rfl),rfl,BImp.refl _,rfl,BImp.refl _,rfl,BImp.refl _,rfl,exs_fwd (q:=3) (by decide),trivial⟩) ?_
     refine VSt.go tb_ok false [89] 200 rfl (AllP.c ‹_› (AllP.c rfl (AllP.c ‹_› (AllP.c rfl (AllP.c rfl (AllP.c rfl (AllP.c (by omega) (AllP.c ‹_› AllP.n)))))))) ?_
     refine VSt.putD 88 (nv (2 ^ n)) rfl (iv_nv (by rw [Nat.one_shiftLeft])) ?_
     refine VSt.go tb_ok false [90] 200 rfl (AllP.c (by unfold inR;(try simp only [Int.ofNat_eq_natCast]);omega) AllP.n) ?_
     refine VSt.putD 89 (nv (2 ^ n - 1)) rfl (iv_nv (by simp only [Int.ofNat_eq_natCast];omega)) ?_
     refine VSt.go tb_ok false [] 200 rfl (AllP.c (by omega) (AllP.c rfl (AllP.c (by omega) (AllP.c rfl (AllP.c ‹_› (AllP.c rfl (AllP.c ‹_› (AllP.c rfl (AllP.c (Nat.le_refl _) AllP.n))))))))) ?_
     refine ⟨?_,trivial⟩
     refine Wk.vw (ps:=[(17,17),(16,16),(15,15),(14,14),(13,13),(12,12),(11,11),(10,10),(1,1)]) ⟨rfl,rfl,(by repeat (first | exact wf_nil | refine wf_back rfl rfl rfl ?_)),_,rfl,(⟨rfl,fillB (k:=3) (g:=leastM c n) (v:=tabM c n (2 ^ n) 3 (0+(2 ^ n - 1))) (by rw [Nat.zero_add];rfl),rfl,rowV_eq rfl (fun _=>rfl),rfl,rowV_eq rfl (fun _=>rfl),rfl,rowV_eq rfl (fun _=>rfl),rfl,rowV_new (blt_t hk) (fun _ _=>rfl),rfl,rowV_eq rfl (fun _=>rfl),rfl,rowV_eq rfl (fun _=>rfl),rfl,rowV_eq rfl (fun _=>rfl),rfl,exs_bck (q:=3) (by decide),trivial⟩)⟩
    ·refine VSt.viewC (Vw.imp (L':=(17,.arr n 1 (fillR n (leastM c n) 4) 3)::(up (tabL n (2 ^ n) ((4,.sl 14 1 0 (2 ^ n) (2 ^ n) 1)::exs (2 ^ n)) (fun v=>Nat.blt v n) (tabM c n (2 ^ n))) 14 (.arr (2 ^ n) 1 (fInts (tabM c n (2 ^ n) 4)) 3))) ⟨rfl,BImp.refl _,rfl,BImp.refl _,rfl,BImp.refl _,rfl,BImp.oArr (blt_t hk) (fun _ _=>rfl),rfl,BImp.refl _,rfl,BImp.refl _,rfl,BImp.refl _,rfl,BImp.refl _,rfl,exs_fwd (q:=4) (by decide),trivial⟩) ?_
     refine VSt.go tb_ok false [89] 200 rfl (AllP.c ‹_› (AllP.c rfl (AllP.c ‹_› (AllP.c rfl (AllP.c rfl (AllP.c rfl (AllP.c (by omega) (AllP.c ‹_› AllP.n)))))))) ?_
     refine VSt.putD 88 (nv (2 ^ n)) rfl (iv_nv (by rw [Nat.one_shiftLeft])) ?_
     refine VSt.go tb_ok false [90] 200 rfl (AllP.c (by unfold inR;(try simp only [Int.ofNat_eq_natCast]);omega) AllP.n) ?_
     refine VSt.putD 89 (nv (2 ^ n - 1)) rfl (iv_nv (by simp only [Int.ofNat_eq_natCast];omega)) ?_
     refine VSt.go tb_ok false [] 200 rfl (AllP.c (by omega) (AllP.c rfl (AllP.c (by omega) (AllP.c rfl (AllP.c ‹_› (AllP.c rfl (AllP.c ‹_› (AllP.c rfl (AllP.c (Nat.le_refl _) AllP.n))))))))) ?_
     refine ⟨?_,trivial⟩
     refine Wk.vw (ps:=[(17,17),(16,16),(15,15),(14,14),(13,13),(12,12),(11,11),(10,10),(1,1)]) ⟨rfl,rfl,(by repeat (first | exact wf_nil | refine wf_back rfl rfl rfl ?_)),_,rfl,(⟨rfl,fillB (k:=4) (g:=leastM c n) (v:=tabM c n (2 ^ n) 4 (0+(2 ^ n - 1))) (by rw [Nat.zero_add];rfl),rfl,rowV_eq rfl (fun _=>rfl),rfl,rowV_eq rfl (fun _=>rfl),rfl,rowV_new (blt_t hk) (fun _ _=>rfl),rfl,rowV_eq rfl (fun _=>rfl),rfl,rowV_eq rfl (fun _=>rfl),rfl,rowV_eq rfl (fun _=>rfl),rfl,rowV_eq rfl (fun _=>rfl),rfl,exs_bck (q:=4) (by decide),trivial⟩)⟩
    ·refine VSt.viewC (Vw.imp (L':=(17,.arr n 1 (fillR n (leastM c n) 5) 3)::(up (tabL n (2 ^ n) ((5,.sl 15 1 0 (2 ^ n) (2 ^ n) 1)::exs (2 ^ n)) (fun v=>Nat.blt v n) (tabM c n (2 ^ n))) 15 (.arr (2 ^ n) 1 (fInts (tabM c n (2 ^ n) 5)) 3))) ⟨rfl,BImp.refl _,rfl,BImp.refl _,rfl,BImp.oArr (blt_t hk) (fun _ _=>rfl),rfl,BImp.refl _,rfl,BImp.refl _,rfl,BImp.refl _,rfl,BImp.refl _,rfl,BImp.refl _,rfl,exs_fwd (q:=5) (by decide),trivial⟩) ?_
     refine VSt.go tb_ok false [89] 200 rfl (AllP.c ‹_› (AllP.c rfl (AllP.c ‹_› (AllP.c rfl (AllP.c rfl (AllP.c rfl (AllP.c (by omega) (AllP.c ‹_› AllP.n)))))))) ?_
     refine VSt.putD 88 (nv (2 ^ n)) rfl (iv_nv (by rw [Nat.one_shiftLeft])) ?_
     refine VSt.go tb_ok false [90] 200 rfl (AllP.c (by unfold inR;(try simp only [Int.ofNat_eq_natCast]);omega) AllP.n) ?_
     refine VSt.putD 89 (nv (2 ^ n - 1)) rfl (iv_nv (by simp only [Int.ofNat_eq_natCast];omega)) ?_
     refine VSt.go tb_ok false [] 200 rfl (AllP.c (by omega) (AllP.c rfl (AllP.c (by omega) (AllP.c rfl (AllP.c ‹_› (AllP.c rfl (AllP.c ‹_› (AllP.c rfl (AllP.c (Nat.le_refl _) AllP.n))))))))) ?_
     refine ⟨?_,trivial⟩
     refine Wk.vw (ps:=[(17,17),(16,16),(15,15),(14,14),(13,13),(12,12),(11,11),(10,10),(1,1)]) ⟨rfl,rfl,(by repeat (first | exact wf_nil | refine wf_back rfl rfl rfl ?_)),_,rfl,(⟨rfl,fillB (k:=5) (g:=leastM c n) (v:=tabM c n (2 ^ n) 5 (0+(2 ^ n - 1))) (by rw [Nat.zero_add];rfl),rfl,rowV_eq rfl (fun _=>rfl),rfl,rowV_new (blt_t hk) (fun _ _=>rfl),rfl,rowV_eq rfl (fun _=>rfl),rfl,rowV_eq rfl (fun _=>rfl),rfl,rowV_eq rfl (fun _=>rfl),rfl,rowV_eq rfl (fun _=>rfl),rfl,rowV_eq rfl (fun _=>rfl),rfl,exs_bck (q:=5) (by decide),trivial⟩)⟩
    ·refine VSt.viewC (Vw.imp (L':=(17,.arr n 1 (fillR n (leastM c n) 6) 3)::(up (tabL n (2 ^ n) ((6,.sl 16 1 0 (2 ^ n) (2 ^ n) 1)::exs (2 ^ n)) (fun v=>Nat.blt v n) (tabM c n (2 ^ n))) 16 (.arr (2 ^ n) 1 (fInts (tabM c n (2 ^ n) 6)) 3))) ⟨rfl,BImp.refl _,rfl,BImp.oArr (blt_t hk) (fun _ _=>rfl),rfl,BImp.refl _,rfl,BImp.refl _,rfl,BImp.refl _,rfl,BImp.refl _,rfl,BImp.refl _,rfl,BImp.refl _,rfl,exs_fwd (q:=6) (by decide),trivial⟩) ?_
     refine VSt.go tb_ok false [89] 200 rfl (AllP.c ‹_› (AllP.c rfl (AllP.c ‹_› (AllP.c rfl (AllP.c rfl (AllP.c rfl (AllP.c (by omega) (AllP.c ‹_› AllP.n)))))))) ?_
     refine VSt.putD 88 (nv (2 ^ n)) rfl (iv_nv (by rw [Nat.one_shiftLeft])) ?_
     refine VSt.go tb_ok false [90] 200 rfl (AllP.c (by unfold inR;(try simp only [Int.ofNat_eq_natCast]);omega) AllP.n) ?_
     refine VSt.putD 89 (nv (2 ^ n - 1)) rfl (iv_nv (by simp only [Int.ofNat_eq_natCast];omega)) ?_
     refine VSt.go tb_ok false [] 200 rfl (AllP.c (by omega) (AllP.c rfl (AllP.c (by omega) (AllP.c rfl (AllP.c ‹_› (AllP.c rfl (AllP.c ‹_› (AllP.c rfl (AllP.c (Nat.le_refl _) AllP.n))))))))) ?_
     refine ⟨?_,trivial⟩
     refine Wk.vw (ps:=[(17,17),(16,16),(15,15),(14,14),(13,13),(12,12),(11,11),(10,10),(1,1)]) ⟨rfl,rfl,(by repeat (first | exact wf_nil | refine wf_back rfl rfl rfl ?_)),_,rfl,(⟨rfl,fillB (k:=6) (g:=leastM c n) (v:=tabM c n (2 ^ n) 6 (0+(2 ^ n - 1))) (by rw [Nat.zero_add];rfl),rfl,rowV_new (blt_t hk) (fun _ _=>rfl),rfl,rowV_eq rfl (fun _=>rfl),rfl,rowV_eq rfl (fun _=>rfl),rfl,rowV_eq rfl (fun _=>rfl),rfl,rowV_eq rfl (fun _=>rfl),rfl,rowV_eq rfl (fun _=>rfl),rfl,rowV_eq rfl (fun _=>rfl),rfl,exs_bck (q:=6) (by decide),trivial⟩)⟩
   ·refine VSt.go tb_ok false [94] 200 rfl AllP.n ?_
    refine VSt.viewO (Vw.kp [9] [(17,17)] rfl) ?_
    refine VSt.viewO (Vw.freeze 17 rfl rfl ⟨by rw [Nat.zero_add];exact Nat.le_refl _,Nat.le_refl _,rfl⟩) ?_
    refine VSt.go tb_ok false [] 200 rfl AllP.n ?_
    refine ⟨rfl,_,rfl,rfl,row_imp rfl fun x hx=>?_⟩
    show [PV.int .i64 (bif Nat.blt (0+x) n then leastM c n (0+x) else 0)]=_
    rw [Nat.zero_add,blt_t hx];rfl
end Go.Proofs.YtncpeobcgmkkbaaGreat
