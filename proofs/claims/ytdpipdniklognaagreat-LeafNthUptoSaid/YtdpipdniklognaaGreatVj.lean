/- The program's LeafNth returns true for all numbers that describe a book and all lists of Ids, without an exception and without changing its arguments: a part of the proof. -/
import Derived.Test.YtdpipdniklognaaGreatVh
import Derived.Test.YtdpipdniklognaaGreatVi
set_option linter.all false
/- The machine's list of neighbours that so many orders have. -/
set_option maxRecDepth 100000
namespace Go.Proofs.YtdpipdniklognaaGreat
section
open Go.RowKit
def z3W:Value→Int×Int
 | .agg cs=>match cs.toList with
  | [.int _ a,.int _ b]=>(a,b)
  | _=>(0,0)
 | _=>(0,0)
def z7p:Value→Int
 | .int _ n=>n
 | _=>0
def z9o (x:Int×Int):List Value:=[.int .i64 x.1,.int .i64 x.2]
def z1U (l:List (Int×Int)):List Value:=l.flatMap z9o
theorem z4f (l:List (Int×Int)):(z1U l).length=l.length*2:=by
 unfold z1U
 induction l with
 | nil=>rfl
 | cons x l ih=>rw [List.flatMap_cons,List.length_append,ih,List.length_cons,Nat.succ_mul];show 2+_=_;omega
def zm2 (es:Array MapEntry) (least:Int) (seen:Array Nat):List (Int×Int):=(es.toList.filter fun x=>seen.contains x.born&&decide (least≤z7p x.val)).map fun x=>z3W x.key
theorem zfe {least:Int} {seen:Array Nat} {e:MapEntry} (hs:seen.contains e.born=false):∀ l:List MapEntry,(l.map (·.born)).Nodup→e∈l →
  ((
   l.filter fun x=>(seen.push e.born).contains x.born&&decide (least≤z7p x.val)).map fun x=>z3W x.key).Perm
   (if least≤z7p e.val then ((l.filter fun x=>seen.contains x.born&&decide (least≤z7p x.val)).map fun x=>z3W x.key)++[z3W e.key] else ((l.filter fun x=>seen.contains x.born&&decide (least≤z7p x.val)).map fun x=>z3W x.key))
 | [],_,he=>by cases he
 | x::l,hn,he=>by
  have hn2:x.born ∉ l.map (·.born)∧(l.map (·.born)).Nodup:=List.nodup_cons.1 hn
  rcases List.mem_cons.1 he with rfl | he
  ·have hsame:(l.filter fun x=>(seen.push e.born).contains x.born&&decide (least≤z7p x.val))=l.filter fun x=>seen.contains x.born&&decide (least≤z7p x.val):=by
    refine List.filter_congr fun y hy=>?_
    have hne:(y.born==e.born)=false:=by
     rw [←Bool.not_eq_true]
     intro h
     exact hn2.1 (List.mem_map.2 ⟨y,hy,beq_iff_eq.1 h⟩)
    rw [contains_push,hne,Bool.or_false]
   rw [List.filter_cons,List.filter_cons,hsame,hs,contains_push,hs,beq_self_eq_true]
   simp only [Bool.false_or,Bool.true_and,Bool.false_and,Bool.false_eq_true,if_false,decide_eq_true_eq]
   by_cases h:least≤z7p e.val
   ·rw [if_pos h,if_pos h,List.map_cons]
    exact List.perm_append_singleton _ _ |>.symm
   ·rw [if_neg h,if_neg h]
  ·have ih:=zfe (least:=least) hs l hn2.2 he
   have hne:(x.born==e.born)=false:=by
    rw [←Bool.not_eq_true]
    intro h
    exact hn2.1 (List.mem_map.2 ⟨e,he,(beq_iff_eq.1 h).symm⟩)
   rw [List.filter_cons,List.filter_cons,contains_push,hne,Bool.or_false]
   cases hc:(seen.contains x.born&&decide (least≤z7p x.val)) with
   | true =>
    simp only [if_true,List.map_cons]
    by_cases h:least≤z7p e.val
    ·rw [if_pos h] at ih ⊢
     rw [List.cons_append]
     exact ih.cons _
    ·rw [if_neg h] at ih ⊢
     exact ih.cons _
   | false =>
    simp only [Bool.false_eq_true,if_false]
    exact ih
theorem zl3 {es:Array MapEntry} {least:Int} {seen:Array Nat} {e:MapEntry} (hn:(es.toList.map (·.born)).Nodup) (he:e∈es.toList) (hs:seen.contains e.born=false) :
  (zm2 es least (seen.push e.born)).Perm (if least≤z7p e.val then zm2 es least seen++[z3W e.key] else zm2 es least seen):=zfe hs es.toList hn he
theorem znK {es:Array MapEntry} {least:Int} {seen:Array Nat} (h:(leftOf es seen).size=0):zm2 es least seen=(es.toList.filter fun x=>decide (least≤z7p x.val)).map fun x=>z3W x.key:=by
 unfold zm2
 congr 1
 refine List.filter_congr fun x hx=>?_
 rw [all_seen es seen h x hx,Bool.true_and]
def leP (x y:Int×Int):Bool:=decide (x.1<y.1)||(decide (x.1=y.1)&&decide (x.2≤y.2))
def zou (x:Int×Int):List (Int×Int)→List (Int×Int)
 | []=>[x]
 | y::l=>bif leP x y then x::y::l else y::zou x l
def z4b:List (Int×Int)→List (Int×Int)
 | []=>[]
 | x::l=>zou x (z4b l)
theorem z8M (x:Int×Int):∀ l,(zou x l).Perm (x::l)
 | []=>List.Perm.refl _
 | y::l=>by
  unfold zou
  cases leP x y with
  | true=>exact List.Perm.refl _
  | false=>exact ((z8M x l).cons y).trans (List.Perm.swap x y l)
theorem z0H:∀ l,(z4b l).Perm l
 | []=>List.Perm.refl _
 | x::l=>(z8M x _).trans ((z0H l).cons x)
theorem leP_iff {x y:Int×Int}:leP x y=true ↔ x.1<y.1∨(x.1=y.1∧x.2≤y.2):=by
 unfold leP
 simp
theorem z8D {x y:Int×Int} (h:leP x y=false):leP y x=true:=by
 have h:¬ (x.1<y.1∨(x.1=y.1∧x.2≤y.2)):=fun h2=>by rw [leP_iff.2 h2] at h;cases h
 rw [leP_iff];omega
theorem z8C {x y z:Int×Int} (h:leP x y=true) (k:leP y z=true):leP x z=true:=by
 rw [leP_iff] at *;omega
theorem zkS {x y:Int×Int} (h:leP x y=true) (k:leP y x=true):x=y:=by
 rw [leP_iff] at *
 have h1:x.1=y.1:=by omega
 have h2:x.2=y.2:=by omega
 exact Prod.ext h1 h2
theorem z8L (x:Int×Int):∀ {l:List (Int×Int)},l.Pairwise (fun a b=>leP a b=true)→(zou x l).Pairwise fun a b=>leP a b=true
 | [],_=>List.pairwise_singleton _ _
 | y::l,h=>by
  obtain ⟨h1,h2⟩:=List.pairwise_cons.1 h
  unfold zou
  cases hc:leP x y with
  | true=>exact List.pairwise_cons.2 ⟨fun z hz=>(List.mem_cons.1 hz).elim (fun e=>e ▸ hc) fun hz=>z8C hc (h1 z hz),h⟩
  | false =>
   refine List.pairwise_cons.2 ⟨fun z hz=>?_,z8L x h2⟩
   rcases List.mem_cons.1 ((z8M x l).mem_iff.1 hz) with e | hz
   ·rw [e];exact z8D hc
   ·exact h1 z hz
theorem z2L:∀ l,(z4b l).Pairwise fun a b=>leP a b=true
 | []=>.nil
 | x::l=>z8L x (z2L l)
theorem z6q:∀ {l m:List (Int×Int)},l.Perm m→l.Pairwise (fun a b=>leP a b=true)→m.Pairwise (fun a b=>leP a b=true)→l=m
 | [],m,h,_,_=>(List.Perm.nil_eq h)
 | a::l,[],h,_,_=>absurd h.length_eq (by simp)
 | a::l,b::m,h,h1,h2=>by
  obtain ⟨a1,a2⟩:=List.pairwise_cons.1 h1
  obtain ⟨b1,b2⟩:=List.pairwise_cons.1 h2
  have e:a=b:=by
   have ha:=h.mem_iff.1 (List.mem_cons_self (a:=a) (l:=l))
   have hb:=h.mem_iff.2 (List.mem_cons_self (a:=b) (l:=m))
   rcases List.mem_cons.1 ha with e | ha
   ·exact e
   rcases List.mem_cons.1 hb with e | hb
   ·exact e.symm
   exact zkS (a1 b hb) (b1 a ha)
  subst e
  rw [z6q (List.Perm.cons_inv h) a2 b2]
theorem zbP {W W':World} {base:Nat} {e:TypeId} {sz:Nat} {v:Value} {n:Nat} {xs:List Value} (h:W.ownsRow base e sz v n xs) (hk:∀ g,base≤g→W'.heap[g]? = W.heap[g]?):W'.ownsRow base e sz v n xs:=by
 obtain ⟨h1,h2⟩:=h
 refine ⟨h1,?_⟩
 rcases h2 with h2 | ⟨g,cap,cur,hv,hg,hh,r⟩
 ·exact .inl h2
 ·exact .inr ⟨g,cap,cur,hv,hg,by rw [hk g hg];exact hh,r⟩
theorem zgi (l:List (Int×Int)) (a b:Int):z1U (l++[(a,b)])=z1U l++[.int .i64 a,.int .i64 b]:=by
 unfold z1U
 rw [List.flatMap_append];rfl
structure AtRel (w:World) (bm:Nat) (es:Array MapEntry) (clock:Nat) (least:Int) (v:Value) (wr:World):Prop where
 rel:∃ (seen:Array Nat) (ss:List (Int×Int)),w.heap.size<wr.heap.size∧wr.os=w.os∧wr.output=w.output∧(∀ c,c<w.heap.size→wr.heap[c]? = w.heap[c]?) ∧
  wr.heap[w.heap.size]? = some (.mapIter (some bm) clock seen clock)∧wr.ownsRow (w.heap.size+1) 58 2 v ss.length (z1U ss)∧ss.Perm (zm2 es least seen)∧ss.length+(leftOf es seen).size≤es.size∧(ss.length=0→v = .slice none 0 0)
theorem AtRel.step {w W1 w4 wr:World} {bm clock:Nat} {es:Array MapEntry} {least:Int} {v:Value} {e:MapEntry} {seen:Array Nat} {ss ss':List (Int×Int)} (hnd:(es.toList.map (·.born)).Nodup) (he:e∈(leftOf es seen).toList)
  (h1:w.heap.size<W1.heap.size) (h2:W1.os=w.os) (h3:W1.output=w.output) (h4:∀ c,c<w.heap.size→W1.heap[c]? = w.heap[c]?) (h5:W1.heap[w.heap.size]? = some (.mapIter (some bm) clock (seen.push e.born) clock))
  (k1:W1.heap.size≤w4.heap.size) (k2:w4.os=W1.os) (k3:w4.output=W1.output) (k4:∀ c,c<w.heap.size+1→w4.heap[c]? = W1.heap[c]?) (k5:w4.ownsRow (w.heap.size+1) 58 2 v ss'.length (z1U ss'))
  (h7:ss.Perm (zm2 es least seen)) (h8:ss.length+(leftOf es seen).size≤es.size) (hss:ss'=if least≤z7p e.val then ss++[z3W e.key] else ss) (h9:wr.heap[w.heap.size]? = some (.mapIter (some bm) clock seen clock)) (h10:ss'.length=0→v = .slice none 0 0) :
  AtRel w bm es clock least v w4∧(leftOf es (w4.iterSeen w.heap.size)).size<(leftOf es (wr.iterSeen w.heap.size)).size:=by
 have hsh:=left_shrinks es seen e he
 have hit:w4.heap[w.heap.size]? = some (.mapIter (some bm) clock (seen.push e.born) clock):=by rw [k4 _ (by omega)];exact h5
 have e1:w4.iterSeen w.heap.size=seen.push e.born:=by unfold World.iterSeen;rw [hit]
 have e2:wr.iterSeen w.heap.size=seen:=by unfold World.iterSeen;rw [h9]
 have hns:seen.contains e.born=false:=(mem_left he).2
 have hp:=zl3 (least:=least) hnd (mem_left he).1 hns
 refine ⟨⟨⟨seen.push e.born,ss',by omega,k2.trans h2,k3.trans h3,fun c hc=>(k4 c (by omega)).trans (h4 c hc),hit,k5,?_,?_,h10⟩⟩,by rw [e1,e2];exact hsh⟩
 ·refine List.Perm.trans ?_ hp.symm
  rw [hss]
  by_cases h:least≤z7p e.val
  ·rw [if_pos h,if_pos h];exact h7.append_right _
  ·rw [if_neg h,if_neg h];exact h7
 ·have:ss'.length≤ss.length+1:=by
   rw [hss]
   by_cases h:least≤z7p e.val
   ·rw [if_pos h,List.length_append];exact Nat.le_refl _
   ·rw [if_neg h];omega
  omega
def zq4 (P:Program) (f g:FuncId):Prop:=(∀ W,Calls P f #[.slice none 0 0,.func (.func g) #[] #[]] W fun e w'=>e = .returned (.tuple #[])∧w'.os=W.os∧w'.output=W.output∧W.heap.size≤w'.heap.size∧∀ c,c<W.heap.size→w'.heap[c]? = W.heap[c]?) ∧
 ∀ (blk cap:Nat) (row:Array Value) (ss:List (Int×Int)) (W:World),W.heap[blk]? = some (.cells row 58 (0,0))→0<ss.length→row.toList.take (ss.length*2)=z1U ss→ss.length≤1000000 →
  Calls P f #[.slice (some ⟨blk,0,none⟩) ss.length cap,.func (.func g) #[] #[]] W fun e w'=>e = .returned (.tuple #[])∧w'.os=W.os∧w'.output=W.output∧W.heap.size≤w'.heap.size∧(∀ c,c<W.heap.size→c≠blk→w'.heap[c]? = W.heap[c]?) ∧
   ∃ row':Array Value,w'.heap[blk]? = some (.cells row' 58 (0,0))∧row'.size=row.size∧row'.toList.take (ss.length*2)=z1U (z4b ss)
def atL (es:Array MapEntry) (least:Int):List (Int×Int):=z4b ((es.toList.filter fun x=>decide (least≤z7p x.val)).map fun x=>z3W x.key)
set_option maxRecDepth 1000000 in
set_option maxHeartbeats 4000000 in
theorem zrm (bm:Nat) (es:Array MapEntry) (clock:Nat) (least:Int) (w:World) (hb:w.heap[bm]? = some (.map es clock)) (hst:∀ x∈es.toList,x.born<clock) (hnd:(es.toList.map (·.born)).Nodup) (hv:∀ x∈es.toList,∃ a b n,x.key = .agg #[.int .i64 a,.int .i64 b]∧x.val = .int .i64 n) (hsz:es.size≤1000000) (hS:zq4 Tryz.prog 78 79) :
  Calls Tryz.prog 63 #[.map (some bm),.int .i64 least] w fun ex w'=>w'.os=w.os∧w'.output=w.output∧w.heap.size≤w'.heap.size∧(∀ c,c<w.heap.size→w'.heap[c]? = w.heap[c]?) ∧
   ((atL es least=[]∧ex = .returned (.slice none 0 0))∨(atL es least≠[]∧∃ b g row,w.heap.size≤b∧ex = .returned (.slice (some ⟨b,0,none⟩) (atL es least).length g)∧(atL es least).length≤g∧w'.heap[b]? = some (.cells row 58 (0,0))∧g*2≤row.size∧∀ (i:Nat) (v:Value),(z1U (atL es least))[i]? = some v→row[i]? = some v)):=by
 have hrg:=run_range_map (P:=Tryz.prog) w 82 58 3 bm es clock Tryz.underlying82 hb
 go_enter Tryz.func63,Tryz.ntmps63
 go_wp2
 go_loopw [5] (fun v wr=>AtRel w bm es clock least v wr) (fun _ wr=>(leftOf es (wr.iterSeen w.heap.size)).size)
 case atStart =>
  refine ⟨⟨#[],[],?_,rfl,rfl,fun c hc=>heap_alloc_old _ _ hc,heap_alloc_new _ _,⟨rfl,.inl ⟨rfl,rfl⟩⟩,?_,?_,fun _=>rfl⟩⟩
  ·simp
  ·unfold zm2
   have:(es.toList.filter fun x=>(#[]:Array Nat).contains x.born&&decide (least≤z7p x.val))=[]:=by
    rw [List.filter_eq_nil_iff]
    intro x _
    simp
   rw [this];exact List.Perm.refl _
  ·unfold leftOf
   have:=Array.size_filter_le (p:=fun e:MapEntry=>!(#[]:Array Nat).contains e.born) (xs:=es)
   simpa using this
 case round =>
  obtain ⟨seen,ss,h1,h2,h3,h4,h5,h6,h7,h8,h10⟩:=hrel.rel
  have hbw:bm<w.heap.size:=(Array.getElem?_eq_some_iff.1 hb).1
  have hb1:wr.heap[bm]? = some (.map es clock):=by rw [h4 bm hbw];exact hb
  rcases zkL (P:=Tryz.prog) wr 0 w.heap.size bm clock clock seen es clock h5 hb1 hst (Nat.le_refl _) with ⟨h0,hrun⟩ | ⟨e,he,w2,hal2,hrun⟩
  ·have hnx:∀ ty,(Instr.next (.pointer (some ⟨w.heap.size,0,none⟩)) false ty).run Tryz.prog wr=_:=fun _=>hrun
   have hL:z4b ss=atL es least:=by
    refine z6q (((z0H ss).trans (h7.trans ?_)).trans (z0H _).symm) (z2L _) (z2L _)
    rw [znK h0]
   have hLl:(atL es least).length=ss.length:=by rw [←hL];exact (z0H ss).length_eq
   obtain ⟨h61,h62⟩:=h6
   rcases h62 with ⟨rfl,hz⟩ | ⟨g,cap,cur,rfl,hbg,hg,hnc,hcm,hcs,hct⟩
   ·have hN:=hS.1 wr
    have hnil:atL es least=[]:=List.eq_nil_of_length_eq_zero (by omega)
    have H4:Hid (∀ c,c<w.heap.size→wr.heap[c]? = w.heap[c]?):=h4
    have HQ:Hid (∀ x,x∈es.toList→x.born<clock):=hst
    clear hS h4 hst hv h7 hL hLl
    go_wp2_with (go_at_call 78;refine hN.mono ?_;rintro e w' ⟨rfl,k1,k2,k3,k4⟩)
    go_ret
    exact ⟨k1.trans h2,k2.trans h3,by omega,fun c hc=>(k4 c (by omega)).trans (H4.out c hc),.inl ⟨hnil,rfl⟩⟩
   ·by_cases hz:ss.length=0
    ·cases h10 hz
    have hN:=hS.2 g cap cur ss wr hg (by omega) hct (by omega)
    have H4:Hid (∀ c,c<w.heap.size→wr.heap[c]? = w.heap[c]?):=h4
    have HL:Hid (z4b ss=atL es least):=hL
    have HLl:Hid ((atL es least).length=ss.length):=hLl
    clear hS h4 hst hv h7 hL hLl
    go_wp2_with (go_at_call 78;refine hN.mono ?_;rintro e w' ⟨rfl,k1,k2,k3,k4,row',k5,k6,k7⟩)
    go_ret
    have hLl:=HLl.out
    refine ⟨k1.trans h2,k2.trans h3,by omega,fun c hc=>(k4 c (by omega) (by omega)).trans (H4.out c hc),.inr ⟨fun e=>by rw [e] at hLl;exact hz hLl.symm,g,cap,row',by omega,(by rw [hLl];rfl),by omega,k5,by omega,fun i u hi=>?_⟩⟩
    rw [←HL.out,←k7] at hi
    rw [←Array.getElem?_toList]
    rw [List.getElem?_take] at hi
    split at hi
    ·exact hi
    ·cases hi
  ·obtain ⟨a,b,n,hkey,hval⟩:=hv e (mem_left he).1
   rw [hkey,hval] at hrun
   obtain ⟨W1,hW1⟩:∃ W1,W1=({ w2 with heap:=w2.heap.setIfInBounds w.heap.size (.mapIter (some bm) clock (seen.push e.born) clock) }:World):=⟨_,rfl⟩
   rw [←hW1] at hrun
   have g0:∀ c,c≠w.heap.size→W1.heap[c]? = wr.heap[c]? :=fun c hc=>by
    rw [hW1]
    show (w2.heap.setIfInBounds w.heap.size _)[c]? = _
    rw [Array.getElem?_setIfInBounds,if_neg (Ne.symm hc),hal2.1]
   have g1:W1.heap[w.heap.size]? = some (.mapIter (some bm) clock (seen.push e.born) clock):=by
    rw [hW1]
    show (w2.heap.setIfInBounds w.heap.size _)[w.heap.size]? = _
    rw [Array.getElem?_setIfInBounds,if_pos rfl,if_pos (by rw [hal2.1];exact h1)]
   have g2:W1.heap.size=wr.heap.size:=by
    rw [hW1]
    show (w2.heap.setIfInBounds w.heap.size _).size=_
    rw [Array.size_setIfInBounds,hal2.1]
   have hnx:∀ ty,(Instr.next (.pointer (some ⟨w.heap.size,0,none⟩)) false ty).run Tryz.prog wr=_:=fun _=>hrun
   have hen:=zj5 (P:=Tryz.prog) W1 w.heap.size bm clock seen es clock e g1 ((g0 bm (by omega)).trans hb1) (mem_left he).1 hnd
   rw [hkey,hval] at hen
   have g3:W1.os=w.os:=by rw [hW1];exact hal2.2.1.trans h2
   have g4:W1.output=w.output:=by rw [hW1];exact hal2.2.2.trans h3
   have g5:∀ c,c<w.heap.size→W1.heap[c]? = w.heap[c]? :=fun c hc=>(g0 c (by omega)).trans (h4 c hc)
   have g6:W1.ownsRow (w.heap.size+1) 58 2 u5 ss.length (z1U ss):=zbP h6 fun g hg=>g0 g (by omega)
   clear hrun hW1 hb1 h6
   have G0:Hid (∀ c,c≠w.heap.size→W1.heap[c]? = wr.heap[c]?):=g0
   have G5:Hid (∀ c,c<w.heap.size→W1.heap[c]? = w.heap[c]?):=g5
   have G6:Hid (W1.ownsRow (w.heap.size+1) 58 2 u5 ss.length (z1U ss)):=g6
   have G1:Hid (W1.heap[w.heap.size]? = some (.mapIter (some bm) clock (seen.push e.born) clock)):=g1
   clear g0 g5 g6 g1
   go_wp2_with (at_builtin;refine zcV (W1.alloc (.cells #[.int .i64 a,.int .i64 b] 58)) rfl (.tmp 18) (.tmp 20) 23 rfl (w.heap.size+1) 58 (.agg #[.int .i64 0,.int .i64 0]) 2 16 (by kernel_rfl) (by kernel_rfl) rfl (by decide) (by decide) _ ss.length _ [.int .i64 a,.int .i64 b] rfl (by simp [Value.oneCell']) rfl (G6.out.alloc _) (by rw [World.size_alloc,g2];rfl) (by omega) (by rw [World.size_alloc];omega) ?_;intro v1 w4 hown4 hgrow _)
   ·have hg:(W1.alloc (.cells #[.int .i64 a,.int .i64 b] 58)).grownBy w4 u5.ownBlock:=hgrow
    rename_i hle _
    have hle:least≤n:=hle
    have hgs:=hg.size
    rw [World.size_alloc] at hgs
    refine AtRel.step (ss:=ss) (ss':=ss++[(a,b)]) hnd he (by omega) g3 g4 G5.out G1.out (by omega) hg.os hg.output (fun c hc=>?_) ?_ h7 h8 ?_ h5 (fun h=>by rw [List.length_append] at h;cases h)
    ·rw [hg.block c (by rw [World.size_alloc];omega) (fun e=>by have:=(G6.out.lt c e.symm).1;omega)]
     exact heap_alloc_old _ _ (by omega)
    ·rw [List.length_append,zgi];exact hown4
    ·rw [hval,hkey]
     exact (if_pos hle).symm
   ·rename_i hle
    have hle:¬ least≤n:=by omega
    refine AtRel.step (ss:=ss) (ss':=ss) hnd he (by omega) g3 g4 G5.out G1.out (by rw [World.size_alloc];omega) rfl rfl (fun c hc=>heap_alloc_old _ _ (by omega)) (G6.out.alloc _) h7 h8 ?_ h5 h10
    rw [hval]
    exact (if_neg hle).symm
end
end Go.Proofs.YtdpipdniklognaaGreat
