/- The program's ChestMore returns true for all numbers without an exception and without changing its arguments: a part of the proof. -/
import Derived.Test.YtbieflpgjmgaiaaGreatVa
import Derived.LoopNIn
set_option linter.all false
/- What stands before what in a region; the evaluator's way through it. -/
namespace Go.Proofs.YtbieflpgjmgaiaaGreat
theorem testBit_mask (acc:List Nat):∀ (l:List Edge) (m:Nat),(maskOf acc l).testBit m=true→∃ e∈l,Region.binds .any e=true∧(m=e.on∨((acc[e.on]?).getD 0).testBit m=true)
 | [],m,h=>by simp [maskOf] at h
 | e::l,m,h=>by
  unfold maskOf at h
  cases hb:Region.binds .any e with
  | false =>
   rw [hb] at h
   obtain ⟨e',h1,h2⟩:=testBit_mask acc l m h
   exact ⟨e',by simp [h1],h2⟩
  | true =>
   rw [hb] at h
   change ((2 ^ e.on ||| (acc[e.on]?).getD 0) ||| maskOf acc l).testBit m=true at h
   simp only [Nat.testBit_or,Nat.testBit_two_pow,Bool.or_eq_true,decide_eq_true_eq] at h
   rcases h with (h | h) | h
   ·exact ⟨e,by simp,hb,.inl h.symm⟩
   ·exact ⟨e,by simp,hb,.inr h⟩
   ·obtain ⟨e',h1,h2⟩:=testBit_mask acc l m h
    exact ⟨e',by simp [h1],h2⟩
theorem befL_length:∀ (l:List Oper) (acc:List Nat),(befL l acc).length=acc.length+l.length
 | [],acc=>by simp [befL]
 | o::l,acc=>by rw [befL,befL_length l];simp;omega
theorem befL_spec {ops:List Oper} {R:Nat→Nat→Prop} (hR:∀ i o e m,ops[i]? = some o→e∈o.after.toList→Region.binds .any e=true→(m=e.on∨R e.on m)→R i m) :
  ∀ (l:List Oper) (acc:List Nat),(∀ k,l[k]? = ops[acc.length+k]?)→(∀ i m,((acc[i]?).getD 0).testBit m=true→R i m)→∀ i m,(((befL l acc)[i]?).getD 0).testBit m=true→R i m
 | [],acc,_,h,i,m,hb=>h i m hb
 | o::l,acc,hl,h,i,m,hb=>by
  refine befL_spec hR l (acc++[maskOf acc o.after.toList]) (fun k=>?_) ?_ i m hb
  ·have:=hl (k+1)
   simpa [Nat.add_assoc,Nat.add_comm 1 k] using this
  ·intro i m hb
   by_cases hi:i<acc.length
   ·rw [List.getElem?_append_left hi] at hb;exact h i m hb
   ·rw [List.getElem?_append_right (by omega)] at hb
    by_cases h0:i - acc.length=0
    ·rw [h0] at hb
     have hi2:i=acc.length:=by omega
     obtain ⟨e,h1,h2,h3⟩:=testBit_mask acc o.after.toList m (by simpa using hb)
     have ho:ops[i]? = some o:=by have:=hl 0;rw [hi2];simpa using this.symm
     exact hR i o e m ho h1 h2 (h3.imp id (h _ _))
    ·rw [List.getElem?_eq_none (by simp;omega)] at hb
     simp at hb
def Bef (ops:Array Oper) (m i:Nat):Prop:=(((befL ops.toList [])[i]?).getD 0).testBit m=true
def Cl (ops:Array Oper) (p:Nat→Prop):Prop:=∀ i o,ops[i]? = some o→p i→∀ e∈o.after.toList,Region.binds .any e=true→p e.on
theorem bef_spec {ops:Array Oper} {R:Nat→Nat→Prop} (hR:∀ i o e m,ops[i]? = some o→e∈o.after.toList→Region.binds .any e=true→(m=e.on∨R e.on m)→R i m) {m i:Nat} (h:Bef ops m i):R i m :=
 befL_spec (fun i o e m ho=>hR i o e m (by rw [←Array.getElem?_toList];exact ho)) ops.toList [] (fun k=>by simp) (fun i m hb=>by simp at hb) i m h
theorem bef_closed {ops:Array Oper} {m i:Nat} (h:Bef ops m i) {p:Nat→Prop} (hp:Cl ops p) (hi:p i):p m :=
 bef_spec (R:=fun i m=>∀ p,Cl ops p→p i→p m) (fun i o e m ho he hb hm p hp hi=>by
  have:=hp i o ho hi e he hb
  rcases hm with rfl | hm
  ·exact this
  ·exact hm p hp this) h p hp hi
theorem bef_lt {ops:Array Oper} (hE:∀ i o e,ops[i]? = some o→e∈o.after.toList→Region.binds .any e=true→e.on<i) {m i:Nat} (h:Bef ops m i):m<i :=
 bef_spec (R:=fun i m=>m<i) (fun i o e m ho he hb hm=>by
  have:=hE i o e ho he hb
  rcases hm with rfl | hm
  ·exact this
  ·omega) h
theorem bef_cl {ops:Array Oper} (hE:∀ i o e,ops[i]? = some o→e∈o.after.toList→Region.binds .any e=true→e.on<i) (i:Nat):Cl ops (fun m=>Bef ops m i):=by
 have key:∀ (l:List Oper) (acc:List Nat),(∀ k,l[k]? = ops.toList[acc.length+k]?) →
   (∀ k,k<acc.length→∀ m o e,((acc[k]?).getD 0).testBit m=true→ops.toList[m]? = some o→e∈o.after.toList→Region.binds .any e=true→((acc[k]?).getD 0).testBit e.on=true) →
   (∀ k,k<acc.length→∀ o e,ops.toList[k]? = some o→e∈o.after.toList→Region.binds .any e=true→((acc[k]?).getD 0).testBit e.on=true) →
   ∀ k,k<(befL l acc).length→∀ m o e,(((befL l acc)[k]?).getD 0).testBit m=true→ops.toList[m]? = some o→e∈o.after.toList→Region.binds .any e=true→(((befL l acc)[k]?).getD 0).testBit e.on=true:=by
  have hmask:∀ (acc:List Nat) (l:List Edge) (e:Edge),e∈l→Region.binds .any e=true→(maskOf acc l).testBit e.on=true∧∀ m,((acc[e.on]?).getD 0).testBit m=true→(maskOf acc l).testBit m=true:=by
   intro acc l
   induction l with
   | nil=>intro e he;cases he
   | cons d l ih =>
    intro e he hb
    unfold maskOf
    rcases List.mem_cons.1 he with rfl | he
    ·rw [hb]
     show ((2 ^ e.on ||| (acc[e.on]?).getD 0) ||| maskOf acc l).testBit e.on=true∧∀ m,_→((2 ^ e.on ||| (acc[e.on]?).getD 0) ||| maskOf acc l).testBit m=true
     refine ⟨by simp [Nat.testBit_or,Nat.testBit_two_pow],fun m hm=>by simp [Nat.testBit_or,hm]⟩
    ·obtain ⟨h1,h2⟩:=ih e he hb
     cases hd:Region.binds .any d with
     | false=>exact ⟨h1,h2⟩
     | true =>
      show ((2 ^ d.on ||| (acc[d.on]?).getD 0) ||| maskOf acc l).testBit e.on=true∧∀ m,_→((2 ^ d.on ||| (acc[d.on]?).getD 0) ||| maskOf acc l).testBit m=true
      refine ⟨by simp [Nat.testBit_or,h1],fun m hm=>by simp [Nat.testBit_or,h2 m hm]⟩
  intro l
  induction l with
  | nil=>intro acc _ h _;exact h
  | cons o l ih =>
   intro acc hl h h'
   have hlen:∀ k,k<(acc++[maskOf acc o.after.toList]).length→k<acc.length∨k=acc.length:=fun k hk=>by simp at hk;omega
   have ho:ops.toList[acc.length]? = some o:=by have:=hl 0;simpa using this.symm
   have hself:((acc++[maskOf acc o.after.toList])[acc.length]?).getD 0=maskOf acc o.after.toList:=by simp
   refine ih (acc++[maskOf acc o.after.toList]) (fun k=>?_) ?_ ?_
   ·have:=hl (k+1)
    simpa [Nat.add_assoc,Nat.add_comm 1 k] using this
   ·intro k hk m o' e hm ho' he hb
    rcases hlen k hk with hk | rfl
    ·rw [List.getElem?_append_left hk] at hm ⊢;exact h k hk m o' e hm ho' he hb
    ·rw [hself] at hm ⊢
     obtain ⟨e2,h1,h2,h3⟩:=testBit_mask acc _ m hm
     have hlt:e2.on<acc.length:=hE acc.length o e2 (by rw [←Array.getElem?_toList];exact ho) h1 h2
     refine (hmask acc _ e2 h1 h2).2 _ ?_
     rcases h3 with rfl | h3
     ·exact h' _ hlt o' e ho' he hb
     ·exact h _ hlt m o' e h3 ho' he hb
   ·intro k hk o' e ho' he hb
    rcases hlen k hk with hk | rfl
    ·rw [List.getElem?_append_left hk];exact h' k hk o' e ho' he hb
    ·rw [hself]
     rw [ho] at ho';cases ho'
     exact (hmask acc _ e he hb).1
 intro m o ho hm e he hb
 have hi:i<(befL ops.toList []).length:=by
  rcases Nat.lt_or_ge i (befL ops.toList []).length with h | h
  ·exact h
  ·unfold Bef at hm;rw [List.getElem?_eq_none h] at hm;simp at hm
 exact key ops.toList [] (fun k=>by simp) (fun k hk=>by simp at hk) (fun k hk=>by simp at hk) i hi m o e hm (by rw [Array.getElem?_toList];exact ho) he hb
theorem compL_iff {ops:Array Oper} {i k:Nat}:compL (befL ops.toList []) i k=true ↔ Bef ops k i∨Bef ops i k:=by
 unfold compL Bef;simp
theorem uniLow_spec {b:Nat}:∀ {k:Nat},uniLow b k=true→∀ m,m<k→b.testBit m=true
 | 0,_,m,hm=>by omega
 | k+1,h,m,hm=>by
  simp only [uniLow,Bool.and_eq_true] at h
  by_cases e:m=k
  ·rw [e];exact h.1
  ·exact uniLow_spec h.2 m (by omega)
theorem uniHigh_spec {i:Nat}:∀ {l:List Nat},uniHigh i l=true→∀ (k b:Nat),l[k]? = some b→b.testBit i=true
 | [],_,k,b,h=>by simp at h
 | c::l,h,k,b,hb=>by
  simp only [uniHigh,Bool.and_eq_true] at h
  cases k with
  | zero=>simp at hb;subst hb;exact h.1
  | succ k=>exact uniHigh_spec h.2 k b (by simpa using hb)
theorem uni_spec {ops:Array Oper} {i:Nat} (h:uni (befL ops.toList []) i=true):∀ k,k<ops.size→k≠i→Bef ops k i∨Bef ops i k:=by
 intro k hk hne
 simp only [uni,Bool.and_eq_true] at h
 by_cases hlt:k<i
 ·exact .inl (uniLow_spec h.1 k hlt)
 ·refine .inr ?_
  have hlen:=befL_length ops.toList []
  simp only [List.length_nil,Nat.zero_add,Array.length_toList] at hlen
  have hk2:k<(befL ops.toList []).length:=by omega
  unfold Bef
  rw [List.getElem?_eq_getElem hk2]
  refine uniHigh_spec h.2 (k - (i+1)) _ ?_
  rw [List.getElem?_drop,show i+1+(k - (i+1))=k by omega,List.getElem?_eq_getElem hk2]
  rfl
structure Drawn (ops:Array Oper):Prop where
 edge:∀ i o e,ops[i]? = some o→e∈o.after.toList→Region.binds .any e=true→e.on<i
 apart:∀ i k x y,ops[i]? = some x→ops[k]? = some y→i<k→Bef ops i k∨((∀ d,x.dst=some d→d ∉ readsOf ops y∧y.dst≠some d)∧∀ d,y.dst=some d→d ∉ readsOf ops x)
theorem apartAll_spec {ops:Array Oper} {y:Oper} {b:Nat}:∀ (l:List Oper) (i:Nat),apartAll ops y b l i=true→∀ k x,l[k]? = some x→apartOk ops x y b (i+k)=true
 | [],i,_,k,x,h=>by simp at h
 | z::l,i,h,k,x,hx=>by
  simp only [apartAll,Bool.and_eq_true] at h
  cases k with
  | zero=>simp at hx;subst hx;exact h.1
  | succ k =>
   have:=apartAll_spec l (i+1) h.2 k x (by simpa using hx)
   rwa [Nat.add_right_comm] at this
theorem drawn_of_chk {ops:Array Oper} (h:drawChk ops (befL ops.toList []) ops.toList 0=true):Drawn ops:=by
 have key:∀ (l:List Oper) (k:Nat),drawChk ops (befL ops.toList []) l k=true→∀ m y,l[m]? = some y→edgesOk (k+m) y.after.toList=true∧apartAll ops y (((befL ops.toList [])[k+m]?).getD 0) (ops.toList.take (k+m)) 0=true:=by
  intro l
  induction l with
  | nil=>intro k _ m y h;simp at h
  | cons z l ih =>
   intro k h m y hy
   simp only [drawChk,Bool.and_eq_true] at h
   cases m with
   | zero=>simp at hy;subst hy;exact ⟨h.1.1,h.1.2⟩
   | succ m =>
    have:=ih (k+1) h.2 m y (by simpa using hy)
    rwa [Nat.add_right_comm] at this
 refine ⟨fun i o e ho he hb=>?_,fun i k x y hx hy hik=>?_⟩
 ·have:=(key ops.toList 0 h i o (by rw [Array.getElem?_toList];exact ho)).1
  rw [Nat.zero_add] at this
  have:=List.all_eq_true.1 this e he
  simpa [hb] using this
 ·have:=(key ops.toList 0 h k y (by rw [Array.getElem?_toList];exact hy)).2
  rw [Nat.zero_add] at this
  have:=apartAll_spec _ 0 this i x (by rw [List.getElem?_take,if_pos hik,Array.getElem?_toList];exact hx)
  rw [Nat.zero_add] at this
  simp only [apartOk,Bool.or_eq_true,Bool.not_eq_true'] at this
  rcases this with this | this
  ·exact .inl this
  ·refine .inr ?_
   rw [Bool.or_eq_false_iff] at this
   refine ⟨fun d hd=>?_,fun d hd=>?_⟩
   ·have h1:=this.1
    rw [hd] at h1
    simp only [clashD,List.contains_eq_mem,decide_eq_false_iff_not,List.mem_append,not_or] at h1
    exact ⟨h1.1,fun e=>h1.2 (by rw [e];simp)⟩
   ·have h1:=this.2
    rw [hd] at h1
    simpa [clashD] using h1
structure Way (G:Good) (callF:CallF) (codeF:CodeF) (ops:Array Oper) (T:Nat→Fr) (S R:Nat→St) (D:Nat→Dr) (i n:Nat):Prop where
 step:∀ k,i≤k→k<n→∃ o,ops[k]? = some o∧stepL G.E callF codeF ops o (T k) ⟨(S k).heap,(S k).size,(S k).size⟩=some (T (k+1),R k) ∧
  S (k+1)=⟨(R k).heap,(R k).size,Nat.min (S k).low (R k).low⟩∧drawOk (befL ops.toList []) k (T k) (S k).size (R k).low o.op (D k)=some (D (k+1))
theorem way_of {G:Good} {callF:CallF} {codeF:CodeF} {ops:Array Oper}:∀ (l:List Oper) (i:Nat) (D0:Dr) (T0:Fr) (S0:St) (r:Fr×St),evDraw G.E callF codeF ops (befL ops.toList []) l i D0 T0 S0=some r →
  (∀ k,l[k]? = ops[i+k]?)→∃ T S R D,T i=T0∧S i=S0∧D i=D0∧Way G callF codeF ops T S R D i (i+l.length)∧r=(T (i+l.length),S (i+l.length))
 | [],i,D0,T0,S0,r,h,_=>by
  cases h
  exact ⟨fun _=>T0,fun _=>S0,fun _=>S0,fun _=>D0,rfl,rfl,rfl,⟨fun k h1 h2=>by simp at h2;omega⟩,rfl⟩
 | o::l,i,D0,T0,S0,r,h,hl=>by
  obtain ⟨q,hq,h1⟩:=ob_some h
  obtain ⟨D',hD,h2⟩:=ob_some h1
  have ho:ops[i]? = some o:=by have:=hl 0;simpa using this.symm
  obtain ⟨T,S,R,D,e1,e2,e3,hw,hr⟩:=way_of l (i+1) D' q.1 _ r h2 (fun k=>by have:=hl (k+1);simpa [Nat.add_assoc,Nat.add_comm 1 k] using this)
  have hlen:i+(o::l).length=i+1+l.length:=by simp;omega
  refine ⟨fun k=>if k=i then T0 else T k,fun k=>if k=i then S0 else S k,fun k=>if k=i then q.2 else R k,fun k=>if k=i then D0 else D k,by simp,by simp,by simp,⟨fun k hk1 hk2=>?_⟩,?_⟩
  ·by_cases hk:k=i
   ·subst hk
    refine ⟨o,ho,?_,?_,?_⟩
    ·simp only [if_true,if_neg (show ¬ k+1=k by omega),e1];exact hq
    ·simp only [if_true,if_neg (show ¬ k+1=k by omega),e2]
    ·simp only [if_true,if_neg (show ¬ k+1=k by omega),e3];exact hD
   ·obtain ⟨o',h3,h4,h5,h6⟩:=hw.step k (by omega) (by omega)
    refine ⟨o',h3,?_,?_,?_⟩
    ·simp only [if_neg hk,if_neg (show ¬ k+1=i by omega)];exact h4
    ·simp only [if_neg hk,if_neg (show ¬ k+1=i by omega)];exact h5
    ·simp only [if_neg hk,if_neg (show ¬ k+1=i by omega)];exact h6
  ·rw [hr,hlen]
   simp only [if_neg (show ¬ i+1+l.length=i by omega)]
end Go.Proofs.YtbieflpgjmgaiaaGreat
/- An operation does the same where blocks that it doesn't touch are given up; and what it writes to. -/
namespace Go.Proofs.YtbieflpgjmgaiaaGreat
noncomputable section
def kill (S:St) (l:List Nat):St:=⟨l.foldl (fun h X=>h.set X .dead) S.heap,S.size,S.low⟩
theorem get_kill (S:St) (l:List Nat) (b:Nat):(kill S l).heap.get b=if b∈l then some .dead else S.heap.get b:=by
 have:∀ (l:List Nat) (h:Tr LObj),(l.foldl (fun h X=>h.set X .dead) h).get b=if b∈l then some .dead else h.get b:=by
  intro l
  induction l with
  | nil=>intro h;simp
  | cons X l ih =>
   intro h
   rw [List.foldl_cons,ih,Tr.get_set]
   by_cases h1:b∈l
   ·simp [h1]
   ·by_cases h2:b=X
    ·simp [h2]
    ·simp [h1,h2]
 exact this l S.heap
theorem kill_cells {S:St} {l:List Nat} {b:Nat} (h:b ∉ l):(kill S l).cells b=S.cells b:=by
 unfold St.cells;rw [get_kill,if_neg h]
def Killed (l:List Nat) (S' Sk:St):Prop:=Sk.size=S'.size∧Sk.low=S'.low∧∀ b,Sk.heap.get b=if b∈l then some .dead else S'.heap.get b
theorem killed_self (S:St) (l:List Nat):Killed l S (kill S l):=⟨rfl,rfl,get_kill S l⟩
theorem killed_new {S Sk:St} {l:List Nat} (h:Killed l S Sk) (hl:∀ X∈l,X<S.size) (o:LObj):Killed l (S.new o) (Sk.new o):=by
 obtain ⟨h1,h2,h3⟩:=h
 refine ⟨by show Nat.succ Sk.size=Nat.succ S.size;rw [h1],h2,fun b=>?_⟩
 rw [get_new,get_new,h1,h3]
 by_cases hb:b=S.size
 ·have:b ∉ l:=fun hm=>by have:=hl b hm;omega
  simp [hb,this,hb ▸ this]
 ·simp [hb]
theorem killed_put {S Sk:St} {l:List Nat} (h:Killed l S Sk) {c:Nat} (hc:c ∉ l) (o:LObj):Killed l (S.put c o) (Sk.put c o):=by
 obtain ⟨h1,h2,h3⟩:=h
 refine ⟨h1,by show Nat.min c Sk.low=Nat.min c S.low;rw [h2],fun b=>?_⟩
 rw [get_put,get_put,h3]
 by_cases hb:b=c
 ·subst hb;simp [hc]
 ·simp [hb]
section
variable {E:Env} {callF:CallF} {codeF:CodeF} {T:Fr} {S:St} {l:List Nat}
theorem keepS_kill {x:Option Value} {r:Value×St} (h:keepS S x=some r):∃ Sk,keepS (kill S l) x=some (r.1,Sk)∧Killed l r.2 Sk:=by
 obtain ⟨h1,h2⟩:=keep_some h
 rw [h1,h2]
 exact ⟨_,rfl,killed_self S l⟩
theorem rdc_kill {b:Nat} (hb:b ∉ l):rdc E (kill S l) b=rdc E S b:=by
 unfold rdc;rw [kill_cells hb]
theorem rda_kill {a:Addr} (hb:a.block ∉ l):rda E (kill S l) a=rda E S a:=by
 unfold rda;rw [rdc_kill hb,kill_cells hb]
theorem load_kill {b n:Nat} {sp:Option Nat} {off:Nat} (hb:b ∉ l):(kill S l).load E ⟨b,off,sp⟩ n=S.load E ⟨b,off,sp⟩ n:=by
 unfold St.load;rw [rdc_kill hb]
theorem loadVar_kill {t:TypeId} {a:Addr} (ha:a.block ∉ l):loadVarL E t a (kill S l)=loadVarL E t a S:=by
 obtain ⟨b,off,sp⟩:=a
 unfold loadVarL
 simp only [load_kill (E:=E) (S:=S) (l:=l) (sp:=sp) (off:=off) ha,rdc_kill (E:=E) (S:=S) ha]
theorem spent_kill {S Sk:St} {a:Addr} (hk:Killed l S Sk) (ha:a.block ∉ l):Killed l (S.spent a) (Sk.spent a):=by
 cases h:a.spot with
 | none=>rw [spent_none h,spent_none h];exact hk
 | some i=>rw [spent_some h,spent_some h];exact killed_put hk ha _
theorem cellsOf_kill {size n:Nat} {x:Value} {ls:List Nat} (hx:∀ a n c,x = .slice (some a) n c→a.block ∉ l):cellsOfL E size n x (kill S l)=cellsOfL E size n x S:=by
 unfold cellsOfL
 split
 ·rename_i a n0 c0;rw [rdc_kill (hx a n0 c0 rfl)]
 ·rfl
 ·rfl
 ·rfl
theorem append_kill {e:LTy} {elem:TypeId} {s:Value} {new:List Value} {k:Nat} {r:Value×St} (hl:∀ X∈l,X<S.size) (hs:∀ a n c,s = .slice (some a) n c→a.block ∉ l) (h:appendL E e elem s new k S=some r) :
  ∃ Sk,appendL E e elem s new k (kill S l)=some (r.1,Sk)∧Killed l r.2 Sk:=by
 obtain ⟨q,hq,h1⟩:=ob_some h
 obtain ⟨qa,qn,qc⟩:=q
 have hsl:=sliceOf_some hq
 dsimp only at hsl h1
 unfold appendL
 rw [hq]
 show ∃ Sk,bf (Nat.beq k 0) (some (s,kill S l)) _=some (r.1,Sk)∧_
 by_cases hk:Nat.beq k 0=true
 ·rw [hk] at h1 ⊢
  cases h1
  exact ⟨_,rfl,killed_self S l⟩
 ·have hk:Nat.beq k 0=false:=Bool.eq_false_iff.mpr hk
  rw [hk] at h1 ⊢
  obtain ⟨hc,h2⟩:=gd_some h1
  rw [hc]
  cases qa with
  | none =>
   obtain ⟨hz,h3⟩:=gd_some h2
   cases h3
   refine ⟨(kill S l).new (.cells new elem),?_,killed_new (killed_self S l) hl _⟩
   show gd _ _=_
   rw [hz];rfl
  | some a =>
   have ha:=hs a qn qc hsl
   obtain ⟨cs,hcs,h3⟩:=ob_some h2
   obtain ⟨hel,h4⟩:=gd_some h3
   show ∃ Sk,appendA E e elem a qn qc new k (kill S l)=some (r.1,Sk)∧_
   unfold appendA
   rw [rda_kill ha,hcs]
   show ∃ Sk,gd (Option.rec true (fun _=>Nat.beq cs.2 elem) a.spot) _=some (r.1,Sk)∧_
   rw [hel]
   by_cases hb:Nat.ble (Nat.add qn k) qc=true
   ·rw [hb] at h4 ⊢
    obtain ⟨cs2,hcs2,h4⟩:=ob_some h4
    obtain ⟨d,hd,h5⟩:=ob_some h4
    cases h5
    refine ⟨(kill S l).put a.block (.cells d cs2.2),?_,killed_put (killed_self S l) ha _⟩
    show ob ((kill S l).cells a.block) _=_
    rw [kill_cells ha,hcs2]
    show ob (paste cs2.1 (a.off+qn*e.size) new) _=_
    rw [hd];rfl
   ·have hb:Nat.ble (Nat.add qn k) qc=false:=Bool.eq_false_iff.mpr hb
    rw [hb] at h4 ⊢
    obtain ⟨d,hd,h5⟩:=ob_some h4
    cases h5
    refine ⟨((kill S l).spent a).new (.cells (d++new) elem),?_,killed_new (spent_kill (killed_self S l) ha) (fun X hX=>?_) _⟩
    ·show ob (cut cs.1 a.off (qn*e.size)) _=_
     rw [hd];rfl
    ·have:(S.spent a).size=S.size:=by
      cases h:a.spot with
      | none=>rw [spent_none h]
      | some i=>rw [spent_some h];rfl
     rw [this];exact hl X hX
theorem op_kill {o:Op} {r:Value×St} {lt:List Nat} (hl:∀ X∈l,X<S.size) (ht:touchL T o=some lt) (hd:∀ X∈lt,X ∉ l) (h:evOp E callF codeF T S o=some r) :
  ∃ Sk,evOp E callF codeF T (kill S l) o=some (r.1,Sk)∧Killed l r.2 Sk:=by
 cases o <;> simp only [evOp] at h ⊢ <;> first | (cases h;done) | (exact keepS_kill h) | skip
 case alloc t =>
  obtain ⟨i,hi,h1⟩:=ob_some h
  cases h1
  exact ⟨_,by unfold opAlloc;rw [hi];rfl,killed_new (killed_self S l) hl _⟩
 case box t x =>
  obtain ⟨v,hv,h1⟩:=ob_some h
  cases h1
  exact ⟨_,by unfold opBox;rw [hv];rfl,killed_new (killed_self S l) hl _⟩
 case buildSlice t len parts =>
  obtain ⟨i,hi,h1⟩:=ob_some h
  obtain ⟨elem,he,h2⟩:=ob_some h1
  obtain ⟨ps,hps,h3⟩:=ob_some h2
  obtain ⟨e,hee,h4⟩:=ob_some h3
  obtain ⟨hc,h5⟩:=gd_some h4
  obtain ⟨c,hcc,h6⟩:=ob_some h5
  cases h6
  refine ⟨(kill S l).new (.cells c elem),?_,killed_new (killed_self S l) hl _⟩
  unfold opBuildSlice
  simp only [ob,hi,he,hps,hee,gd,hc,hcc]
  rfl
 case load t a =>
  obtain ⟨h1,h2⟩:=keep_some h
  obtain ⟨p,hp,h3⟩:=ob_some h1
  have hpl:p.block ∉ l:=by
   change ob (ob (T.ev a) addrOf) (fun p=>some [p.block])=some lt at ht
   rw [hp] at ht;cases ht
   exact hd _ (by simp)
  refine ⟨kill S l,?_,by rw [h2];exact killed_self S l⟩
  unfold opLoad
  rw [hp]
  show keepS (kill S l) (loadVarL E t p (kill S l))=_
  rw [loadVar_kill hpl,h3];rfl
 case store t a x =>
  obtain ⟨p,hp,h1⟩:=ob_some h
  obtain ⟨v,hv,h2⟩:=ob_some h1
  obtain ⟨S1,hS,h3⟩:=ob_some h2
  cases h3
  have hpl:p.block ∉ l:=by
   change ob (ob (T.ev a) addrOf) (fun p=>some [p.block])=some lt at ht
   rw [hp] at ht;cases ht
   exact hd _ (by simp)
  obtain ⟨i,hi,h4⟩:=ob_some hS
  obtain ⟨hsz,h5⟩:=gd_some h4
  obtain ⟨hsp,h6⟩:=noSpot_some h5
  obtain ⟨c,hc,h7⟩:=ob_some h6
  obtain ⟨hsc,h8⟩:=gd_some h7
  obtain ⟨d,hdd,h9⟩:=ob_some h8
  cases h9
  refine ⟨(kill S l).put p.block (.cells d c.2),?_,killed_put (killed_self S l) hpl _⟩
  unfold opStore
  rw [hp,hv]
  show ob (storeVarL E t p v (kill S l)) _=_
  unfold storeVarL
  rw [hi]
  show ob (gd (Nat.beq v.cells.size i.size) ((kill S l).store p v.cells.toList)) _=_
  rw [hsz]
  show ob ((kill S l).store p v.cells.toList) _=_
  unfold St.store noSpot
  rw [hsp,kill_cells hpl,hc]
  show ob (gd (v.cells.toList.all scalar) (ob (paste c.1 p.off v.cells.toList) _)) _=_
  rw [hsc,hdd];rfl
 case makeMap t rr =>
  cases rr with
  | some _=>cases h
  | none =>
   cases h
   exact ⟨_,rfl,killed_new (killed_self S l) hl _⟩
 case makeSlice t a b =>
  obtain ⟨u,hu,h1⟩:=ob_some h
  obtain ⟨u2,hu2,h2⟩:=ob_some h1
  obtain ⟨i,hi,h3⟩:=ob_some h2
  obtain ⟨elem,he,h4⟩:=ob_some h3
  obtain ⟨e,hee,h5⟩:=ob_some h4
  obtain ⟨n,hn,h6⟩:=ob_some h5
  obtain ⟨c,hc,h7⟩:=ob_some h6
  obtain ⟨hcond,h8⟩:=gd_some h7
  cases h8
  refine ⟨(kill S l).new (.cells (zeros e.zero.cells.toList c) elem),?_,killed_new (killed_self S l) hl _⟩
  simp only [ob,hu,hu2,makeSliceL,hi,he,hee,hn,hc,makeSliceE,gd,hcond]
  rfl
 case slice t x lo hi mx =>
  obtain ⟨h1,h2⟩:=keep_some h
  obtain ⟨v,hv,h3⟩:=ob_some h1
  refine ⟨kill S l,?_,by rw [h2];exact killed_self S l⟩
  have hbl:∀ a n c,v = .slice (some a) n c→a.block ∉ l:=by
   intro a n c e
   change ob (T.ev x) slicesOf=some lt at ht
   rw [hv,e] at ht
   cases ht
   exact hd _ (by simp [blockOf])
  rw [hv]
  show keepS (kill S l) (sliceL E t v T lo hi mx (kill S l))=_
  have:sliceL E t v T lo hi mx (kill S l)=sliceL E t v T lo hi mx S:=by
   unfold sliceL
   congr 1
   funext i
   split
   ·rfl
   ·rename_i elem a n c _
    congr 1
    funext e
    congr 1
    unfold elemOk
    cases a with
    | none=>rfl
    | some a =>
     show (Option.rec (motive:=fun _=>Bool) true (fun _=>Option.rec (motive:=fun _=>Bool) false (fun c=>Nat.beq c.2 elem) ((kill S l).cells a.block)) a.spot)=_
     rw [kill_cells (hbl a n c rfl)]
   ·rfl
  rw [this,h3];rfl
 case lookup t x k ok =>
  obtain ⟨h1,h2⟩:=keep_some h
  obtain ⟨m,hm,h3⟩:=ob_some h1
  obtain ⟨i,hi,h4⟩:=ob_some h3
  refine ⟨kill S l,?_,by rw [h2];exact killed_self S l⟩
  have:mapOf (kill S l) m=mapOf S m:=by
   change ob (T.ev x) mapsOf=some lt at ht
   rw [hm] at ht
   unfold mapOf
   split
   ·rfl
   ·rename_i r
    cases ht
    rw [get_kill,if_neg (hd r (by simp))]
   ·rfl
  rw [hm,hi]
  show keepS (kill S l) (lookupL E t m i ok (kill S l))=_
  unfold lookupL
  rw [this]
  change lookupL E t m i ok S=_ at h4
  unfold lookupL at h4
  rw [h4];rfl
 case mapUpdate t m k x =>
  obtain ⟨u,hu,h1⟩:=ob_some h
  obtain ⟨u2,hu2,h2⟩:=ob_some h1
  obtain ⟨u3,hu3,h3⟩:=ob_some h2
  obtain ⟨S1,hS,h4⟩:=ob_some h3
  cases h4
  obtain ⟨i,hi,h5⟩:=ob_some hS
  obtain ⟨d,hdd,h6⟩:=ob_some h5
  obtain ⟨kt,hkt,h7⟩:=ob_some h6
  obtain ⟨rr,hrr,h8⟩:=ob_some h7
  obtain ⟨es,hes,h9⟩:=ob_some h8
  obtain ⟨hkk,h10⟩:=gd_some h9
  obtain ⟨f,hf,h11⟩:=ob_some h10
  cases h11
  have hrl:rr ∉ l:=by
   change ob (T.ev m) mapsOf=some lt at ht
   rw [hu,refOf_some hrr] at ht
   cases ht
   exact hd rr (by simp)
  refine ⟨(kill S l).put rr (.map (putEs es u2 u3 f)),?_,killed_put (killed_self S l) hrl _⟩
  rw [hu,hu2,hu3]
  show ob (mapPutL E t u u2 u3 (kill S l)) _=_
  unfold mapPutL
  rw [hi]
  show ob (ob (mapD i.desc) _) _=_
  rw [hdd]
  show ob (ob (E.ti.get d.1) _) _=_
  rw [hkt]
  show ob (ob (refOf u) _) _=_
  rw [hrr]
  show ob (ob (ob ((kill S l).heap.get rr) mapO) _) _=_
  rw [get_kill,if_neg hrl,hes]
  show ob (gd (keyKind kt.desc u2) (ob (findL u2 es 0) _)) _=_
  rw [hkk,hf];rfl
 case range t x =>
  obtain ⟨u,hu,h1⟩:=ob_some h
  obtain ⟨i,hi,h2⟩:=ob_some h1
  rw [hu]
  show ∃ Sk,opRange E t u (kill S l)=some (r.1,Sk)∧_
  unfold opRange
  rw [hi]
  show ∃ Sk,(match i.desc,u with
   | .string,.string s=>some (ptr (kill S l).size 0,(kill S l).new (.strIter s 0))
   | .map _ _,.map none=>some (ptr (kill S l).size 0,(kill S l).new .nilIter)
   | _,_=>none)=some (r.1,Sk)∧_
  split at h2
  ·rename_i hD;cases h2
   rw [hD]
   exact ⟨_,rfl,killed_new (killed_self S l) hl _⟩
  ·rename_i hD;cases h2
   rw [hD]
   exact ⟨_,rfl,killed_new (killed_self S l) hl _⟩
  ·cases h2
 case next x str =>
  obtain ⟨u,hu,h1⟩:=ob_some h
  obtain ⟨a,ha,h2⟩:=ob_some h1
  obtain ⟨hoff,h3⟩:=gd_some h2
  obtain ⟨hsp,h4⟩:=noSpot_some h3
  obtain ⟨oo,hoo,h5⟩:=ob_some h4
  have hal:a.block ∉ l:=by
   change ob (ob (T.ev x) addrOf) (fun p=>some [p.block])=some lt at ht
   rw [hu] at ht
   change ob (addrOf u) (fun p=>some [p.block])=some lt at ht
   rw [ha] at ht;cases ht
   exact hd _ (by simp)
  rw [hu]
  show ∃ Sk,opNext u str (kill S l)=some (r.1,Sk)∧_
  unfold opNext
  rw [ha]
  show ∃ Sk,gd (Nat.beq a.off 0) (noSpot a (ob ((kill S l).heap.get a.block) fun o=>nextO o str a.block (kill S l)))=some (r.1,Sk)∧_
  unfold noSpot
  rw [hoff,hsp,get_kill,if_neg hal,hoo]
  show ∃ Sk,nextO oo str a.block (kill S l)=some (r.1,Sk)∧_
  unfold nextO at h5 ⊢
  split at h5
  ·cases h5;exact ⟨_,rfl,killed_self S l⟩
  ·rename_i s pos
   cases hb:Nat.blt pos s.size with
   | true =>
    rw [hb] at h5
    cases h5
    exact ⟨_,rfl,killed_put (killed_self S l) hal _⟩
   | false =>
    rw [hb] at h5
    cases h5
    exact ⟨_,rfl,killed_self S l⟩
  ·cases h5
 case call c =>
  obtain ⟨args,hargs,h1⟩:=ob_some h
  unfold opCall
  rw [hargs]
  change touchCall T c=some lt at ht
  unfold touchCall at ht
  split at ht
  ·rename_i hcal
   rw [hcal] at h1
   show ∃ Sk,(match c.callee with
    | .builtin b=>builtinL E b c.argTypes.toList args (kill S l)
    | .value f=>ob (T.ev f) fun v=>callValL callF codeF v args (kill S l)
    | .invoke _ _=>none)=some (r.1,Sk)∧_
   rw [hcal]
   change biLen E c.argTypes.toList args S=some r at h1
   show ∃ Sk,biLen E c.argTypes.toList args (kill S l)=some (r.1,Sk)∧_
   obtain ⟨t,htt,h2⟩:=ob_some h1
   obtain ⟨x,hx,h3⟩:=ob_some h2
   obtain ⟨i,hi,h4⟩:=ob_some h3
   obtain ⟨v,hv,h5⟩:=ob_some h4
   cases h5
   refine ⟨kill S l,?_,killed_self S l⟩
   unfold biLen
   rw [htt,hx]
   show ob (E.ti.get t) _=_
   rw [hi]
   show ob (lenD i.desc x (kill S l)) _=_
   have:lenD i.desc x (kill S l)=lenD i.desc x S:=by
    rw [hargs] at ht
    split at ht
    ·rename_i h;cases h
     cases hx
     unfold lenD
     split <;> first | rfl | (rename_i h _;cases h) | skip
    ·rename_i h;cases h
     cases hx
     unfold lenD
     split <;> first | rfl | (rename_i h _;cases h) | skip
    ·cases ht
   rw [this,hv];rfl
  ·rename_i hcal
   rw [hcal] at h1
   show ∃ Sk,(match c.callee with
    | .builtin b=>builtinL E b c.argTypes.toList args (kill S l)
    | .value f=>ob (T.ev f) fun v=>callValL callF codeF v args (kill S l)
    | .invoke _ _=>none)=some (r.1,Sk)∧_
   rw [hcal]
   change biAppend E c.argTypes.toList args S=some r at h1
   show ∃ Sk,biAppend E c.argTypes.toList args (kill S l)=some (r.1,Sk)∧_
   rw [hargs] at ht
   split at ht
   ·rename_i a n0 c0 b n1 c1 hh
    cases hh
    cases ht
    have ha:∀ a' n c,Value.slice a n0 c0 = .slice (some a') n c→a'.block ∉ l:=by
     intro a' n c e
     cases e
     exact hd _ (by simp [blockOf])
    have hb:∀ a' n c,Value.slice b n1 c1 = .slice (some a') n c→a'.block ∉ l:=by
     intro a' n c e
     cases e
     exact hd _ (by simp [blockOf])
    obtain ⟨t,htt,h2⟩:=ob_some h1
    obtain ⟨u,huu,h3⟩:=ob_some h2
    obtain ⟨s,hs,h4⟩:=ob_some h3
    obtain ⟨x,hx,h5⟩:=ob_some h4
    cases hs;cases hx
    obtain ⟨i,hi,h6⟩:=ob_some h5
    obtain ⟨ui,hui,h7⟩:=ob_some h6
    obtain ⟨elem,hel,h8⟩:=ob_some h7
    obtain ⟨e,hee,h9⟩:=ob_some h8
    unfold biAppend
    rw [htt,huu]
    show ∃ Sk,ob (E.ti.get t) _=some (r.1,Sk)∧_
    rw [hi]
    show ∃ Sk,ob (E.ti.get u) _=some (r.1,Sk)∧_
    rw [hui]
    show ∃ Sk,ob (sliceD i.desc) _=some (r.1,Sk)∧_
    rw [hel]
    show ∃ Sk,ob (E.ti.get elem) _=some (r.1,Sk)∧_
    rw [hee]
    show ∃ Sk,bf (isIntD ui.desc) _ _=some (r.1,Sk)∧_
    cases hz:isIntD ui.desc with
    | true =>
     rw [hz] at h9
     cases (show (none:Option (Value×St))=some r from h9)
    | false =>
     rw [hz] at h9
     obtain ⟨hsrc,h10⟩:=gd_some h9
     obtain ⟨k,hk,h11⟩:=ob_some h10
     obtain ⟨new,hnew,h12⟩:=ob_some h11
     obtain ⟨Sk,h13,h14⟩:=append_kill hl ha h12
     refine ⟨Sk,?_,h14⟩
     show gd (isSrcD ui.desc) (ob (lenValL (.slice b n1 c1)) fun k=>ob (cellsOfL E e.size k (.slice b n1 c1) (kill S l)) fun new=>appendL E e elem (.slice a n0 c0) new k (kill S l))=_
     rw [hsrc,hk]
     show ob (cellsOfL E e.size k (.slice b n1 c1) (kill S l)) _=_
     rw [cellsOf_kill (ls:=[]) hb,hnew]
     exact h13
   ·cases ht
  ·cases ht
theorem store_frame {o:Op} {r:Value×St} {X:Nat} (hX:storeAt T o=some X) (h:evOp E callF codeF T S o=some r):∀ b,b<S.size→b≠X→r.2.heap.get b=S.heap.get b:=by
 intro b hb hne
 cases o <;> simp only [storeAt] at hX <;> first | (cases hX;done) | skip
 case store t a x =>
  obtain ⟨p,hp,h1⟩:=ob_some h
  rw [hp] at hX
  cases hX
  obtain ⟨v,hv,h2⟩:=ob_some h1
  obtain ⟨S1,hS,h3⟩:=ob_some h2
  cases h3
  obtain ⟨i,hi,h4⟩:=ob_some hS
  obtain ⟨hsz,h5⟩:=gd_some h4
  obtain ⟨hsp,h6⟩:=noSpot_some h5
  obtain ⟨c,hc,h7⟩:=ob_some h6
  obtain ⟨hsc,h8⟩:=gd_some h7
  obtain ⟨d,hdd,h9⟩:=ob_some h8
  cases h9
  exact (get_put).trans (if_neg hne)
 case mapUpdate t m k x =>
  obtain ⟨u,hu,h1⟩:=ob_some h
  obtain ⟨u2,hu2,h2⟩:=ob_some h1
  obtain ⟨u3,hu3,h3⟩:=ob_some h2
  obtain ⟨S1,hS,h4⟩:=ob_some h3
  cases h4
  obtain ⟨i,hi,h5⟩:=ob_some hS
  obtain ⟨d,hdd,h6⟩:=ob_some h5
  obtain ⟨kt,hkt,h7⟩:=ob_some h6
  obtain ⟨rr,hrr,h8⟩:=ob_some h7
  obtain ⟨es,hes,h9⟩:=ob_some h8
  obtain ⟨hkk,h10⟩:=gd_some h9
  obtain ⟨f,hf,h11⟩:=ob_some h10
  cases h11
  rw [hu] at hX
  change refOf u=some X at hX
  rw [hrr] at hX
  cases hX
  exact (get_put).trans (if_neg hne)
 case next x str =>
  obtain ⟨u,hu,h1⟩:=ob_some h
  obtain ⟨a,ha,h2⟩:=ob_some h1
  obtain ⟨hoff,h3⟩:=gd_some h2
  obtain ⟨hsp,h4⟩:=noSpot_some h3
  obtain ⟨oo,hoo,h5⟩:=ob_some h4
  rw [hu] at hX
  change ob (addrOf u) (fun p=>some p.block)=some X at hX
  rw [ha] at hX
  cases hX
  unfold nextO at h5
  split at h5
  ·cases h5;rfl
  ·rename_i s pos
   cases hb:Nat.blt pos s.size with
   | true =>
    rw [hb] at h5
    cases h5
    exact (get_put).trans (if_neg hne)
   | false =>
    rw [hb] at h5
    cases h5;rfl
  ·cases h5
 case call c =>
  obtain ⟨args,hargs,h1⟩:=ob_some h
  unfold storeCall at hX
  split at hX
  ·rename_i hcal
   rw [hcal] at h1
   change biAppend E c.argTypes.toList args S=some r at h1
   rw [hargs] at hX
   split at hX
   ·rename_i a n0 c0 b1 n1 c1 hh
    cases hh
    cases hX
    obtain ⟨t,htt,h2⟩:=ob_some h1
    obtain ⟨u,huu,h3⟩:=ob_some h2
    obtain ⟨s,hs,h4⟩:=ob_some h3
    obtain ⟨x,hx,h5⟩:=ob_some h4
    cases hs;cases hx
    obtain ⟨i,hi,h6⟩:=ob_some h5
    obtain ⟨ui,hui,h7⟩:=ob_some h6
    obtain ⟨elem,hel,h8⟩:=ob_some h7
    obtain ⟨e,hee,h9⟩:=ob_some h8
    have key:∀ (new:List Value) (k:Nat),appendL E e elem (.slice (some a) n0 c0) new k S=some r→r.2.heap.get b=S.heap.get b:=by
     intro new k h
     obtain ⟨q,hq,h1⟩:=ob_some h
     cases hq
     by_cases hk:Nat.beq k 0=true
     ·rw [hk] at h1;cases h1;rfl
     ·have hk:Nat.beq k 0=false:=Bool.eq_false_iff.mpr hk
      rw [hk] at h1
      obtain ⟨hc,h2⟩:=gd_some h1
      obtain ⟨cs,hcs,h3⟩:=ob_some h2
      obtain ⟨hel,h4⟩:=gd_some h3
      by_cases hbl:Nat.ble (Nat.add n0 k) c0=true
      ·rw [hbl] at h4
       obtain ⟨cs2,hcs2,h4⟩:=ob_some h4
       obtain ⟨d,hd,h5⟩:=ob_some h4
       cases h5
       exact (get_put).trans (if_neg hne)
      ·have hbl:Nat.ble (Nat.add n0 k) c0=false:=Bool.eq_false_iff.mpr hbl
       rw [hbl] at h4
       obtain ⟨d,hd,h5⟩:=ob_some h4
       cases h5
       cases hsp:a.spot with
       | none =>
        show ((S.spent a).new _).heap.get b=_
        rw [spent_none hsp,get_new,if_neg (by omega)]
       | some i =>
        show ((S.spent a).new _).heap.get b=_
        rw [spent_some hsp,get_new,if_neg (by show b≠S.size;omega),get_put,if_neg hne]
    cases hz:isIntD ui.desc with
    | true =>
     rw [hz] at h9
     cases (show (none:Option (Value×St))=some r from h9)
    | false =>
     rw [hz] at h9
     obtain ⟨hsrc,h10⟩:=gd_some h9
     obtain ⟨k,hk,h11⟩:=ob_some h10
     obtain ⟨new,hnew,h12⟩:=ob_some h11
     exact key new k h12
   ·cases hX
  ·cases hX
theorem store_dom {o:Op} {X:Nat} {j:Inj} {ρ : Operand→Value} (hX:storeAt T o=some X) (hr:RelOps j T ρ o.operands.toList):∃ x,j X=some x:=by
 cases o <;> simp only [storeAt] at hX <;> first | (cases hX;done) | skip
 case store t a x =>
  obtain ⟨p,hp,h1⟩:=ob_some hX
  cases h1
  obtain ⟨u,hu,h2⟩:=ob_some hp
  have:=addrOf_some h2;subst this
  obtain ⟨_,_,_,x,hx,_⟩:=(hr a (by simp [Op.operands]) _ hu).ptr_inv
  exact ⟨x,hx⟩
 case mapUpdate t m k x =>
  obtain ⟨u,hu,h1⟩:=ob_some hX
  have:=refOf_some h1;subst this
  have:=hr m (by simp [Op.operands]) _ hu
  generalize ρ m=y at this
  cases this with
  | map h=>exact ⟨_,h⟩
 case next a str =>
  obtain ⟨p,hp,h1⟩:=ob_some hX
  cases h1
  obtain ⟨u,hu,h2⟩:=ob_some hp
  have:=addrOf_some h2;subst this
  obtain ⟨_,_,_,x,hx,_⟩:=(hr a (by simp [Op.operands]) _ hu).ptr_inv
  exact ⟨x,hx⟩
 case call c =>
  unfold storeCall at hX
  split at hX
  ·split at hX
   ·rename_i hargs
    cases hX
    have hra:RelOps j T ρ c.args.toList:=fun x hx=>hr x (by simp only [Op.operands,Call.operands,Array.toList_append];exact List.mem_append_right _ hx)
    have:=RelOps.evs hra hargs
    generalize c.args.toList.map ρ = ys at this
    cases this with
    | cons h _ =>
     cases h with
     | slice h=>obtain ⟨x,hx,_⟩:=h;exact ⟨x,hx⟩
   ·cases hX
  ·cases hX
theorem store_touch {o:Op} {X:Nat} (hX:storeAt T o=some X) {lt:List Nat} (ht:touchL T o=some lt):X∈lt:=by
 cases o <;> simp only [storeAt] at hX <;> first | (cases hX;done) | skip
 case store t a x =>
  obtain ⟨p,hp,h1⟩:=ob_some hX
  cases h1
  change ob (ob (T.ev a) addrOf) (fun p=>some [p.block])=some lt at ht
  rw [hp] at ht;cases ht;simp
 case mapUpdate t m k x =>
  obtain ⟨u,hu,h1⟩:=ob_some hX
  have:=refOf_some h1;subst this
  change ob (T.ev m) mapsOf=some lt at ht
  rw [hu] at ht;cases ht;simp
 case next a str =>
  obtain ⟨p,hp,h1⟩:=ob_some hX
  cases h1
  change ob (ob (T.ev a) addrOf) (fun p=>some [p.block])=some lt at ht
  rw [hp] at ht;cases ht;simp
 case call c =>
  change touchCall T c=some lt at ht
  unfold storeCall at hX
  unfold touchCall at ht
  split at hX
  ·rename_i hcal
   rw [hcal] at ht
   split at hX
   ·rename_i hargs
    cases hX
    rw [hargs] at ht
    cases ht
    simp [blockOf]
   ·cases hX
  ·cases hX
end
end
end Go.Proofs.YtbieflpgjmgaiaaGreat
/- A region that draws its order: whatever order is drawn, it does what the evaluator does in the text's order. -/
namespace Go.Proofs.YtbieflpgjmgaiaaGreat
theorem step_T {E:Env} {callF:CallF} {codeF:CodeF} {ops:Array Oper} {o:Oper} {T:Fr} {S:St} {r:Fr×St} (h:stepL E callF codeF ops o T S=some r):∃ v,T.put o.dst v=some r.1:=by
 obtain ⟨b,_,h1⟩:=ob_some h
 cases b with
 | false=>obtain ⟨T',h2,h3⟩:=ob_some h1;cases h3;exact ⟨_,h2⟩
 | true =>
  obtain ⟨q,_,h2⟩:=ob_some h1
  obtain ⟨T',h3,h4⟩:=ob_some h2
  cases h4;exact ⟨_,h3⟩
theorem put_other {T T':Fr} {d:Option Tmp} {v:Value} (h:T.put d v=some T') {t:Tmp} (ht:d≠some t):T'.t.get t=T.t.get t:=by
 rcases put_some h with ⟨rfl,rfl⟩ | ⟨t',rfl,_,rfl⟩
 ·rfl
 ·show (T.t.set t' v).get t=_
  rw [Tr.get_set,if_neg (fun e=>ht (by rw [e]))]
theorem put_n {T T':Fr} {d:Option Tmp} {v:Value} (h:T.put d v=some T'):T'.n=T.n:=by
 rcases put_some h with ⟨rfl,rfl⟩ | ⟨t',rfl,_,rfl⟩ <;> rfl
theorem step_store {E:Env} {callF:CallF} {codeF:CodeF} {ops:Array Oper} {o:Oper} {T:Fr} {S:St} {r:Fr×St} (h:stepL E callF codeF ops o T S=some r) {X:Nat} (hX:storeAt T o.op=some X) :
  ∀ b,b<S.size→b≠X→r.2.heap.get b=S.heap.get b:=by
 obtain ⟨b,_,h1⟩:=ob_some h
 cases b with
 | false=>obtain ⟨T',h2,h3⟩:=ob_some h1;cases h3;exact fun _ _ _=>rfl
 | true =>
  obtain ⟨q,hq,h2⟩:=ob_some h1
  obtain ⟨T',h3,h4⟩:=ob_some h2
  cases h4
  exact store_frame hX hq
theorem step_kill {E:Env} {callF:CallF} {codeF:CodeF} {ops:Array Oper} {o:Oper} {T:Fr} {S:St} {r:Fr×St} {l:List Nat} (hl:∀ X∈l,X<S.size) (ht:l=[]∨∃ lt,touchL T o.op=some lt∧∀ X∈lt,X ∉ l) (h:stepL E callF codeF ops o T S=some r) :
  ∃ Rk,stepL E callF codeF ops o T (kill S l)=some (r.1,Rk)∧Killed l r.2 Rk:=by
 rcases ht with rfl | ⟨lt,ht,hd⟩
 ·exact ⟨r.2,h,rfl,rfl,fun b=>by simp⟩
 ·obtain ⟨b,hb,h1⟩:=ob_some h
  unfold stepL
  rw [hb]
  cases b with
  | false =>
   obtain ⟨T',h2,h3⟩:=ob_some h1
   cases h3
   refine ⟨kill S l,?_,killed_self S l⟩
   show putS T o.dst (undef,kill S l)=_
   unfold putS
   rw [h2];rfl
  | true =>
   obtain ⟨q,hq,h2⟩:=ob_some h1
   obtain ⟨T',h3,h4⟩:=ob_some h2
   cases h4
   obtain ⟨Sk,h5,h6⟩:=op_kill hl ht hd hq
   refine ⟨Sk,?_,h6⟩
   show ob (evOp E callF codeF T (kill S l) o.op) (putS T o.dst)=_
   rw [h5]
   show putS T o.dst (q.1,Sk)=_
   unfold putS
   rw [h3];rfl
theorem makerOf_spec {X:Nat}:∀ (L:List Nat),makerOf X L≤L.length∧(∀ k s,k<makerOf X L→L[k]? = some s→s≤X)∧(∀ s,L[makerOf X L]? = some s→X<s)
 | []=>⟨Nat.le_refl _,fun k s h=>by simp [makerOf] at h,fun s h=>by simp [makerOf] at h⟩
 | b::l=>by
  obtain ⟨h1,h2,h3⟩:=makerOf_spec (X:=X) l
  unfold makerOf
  cases hb:Nat.ble b X with
  | false =>
   refine ⟨Nat.zero_le _,fun k s h=>absurd h (Nat.not_lt_zero _),fun s h=>?_⟩
   have:s=b:=by simpa [bf] using h.symm
   rw [this]
   rcases Nat.lt_or_ge X b with h4 | h4
   ·exact h4
   ·rw [Nat.ble_eq_true_of_le h4] at hb;cases hb
  | true =>
   show 1+makerOf X l≤l.length+1∧(∀ k s,k<1+makerOf X l→(b::l)[k]? = some s→s≤X)∧∀ s,(b::l)[1+makerOf X l]? = some s→X<s
   refine ⟨by omega,fun k s hk hs=>?_,fun s hs=>h3 s (by rw [Nat.add_comm] at hs;simpa using hs)⟩
   cases k with
   | zero =>
        have:b=s:=by simpa using hs
        rw [←this];exact ble_le hb
   | succ k=>exact h2 k s (by omega) (by simpa using hs)
section
variable {G:Good} {callF:CallF} {codeF:CodeF} {ops:Array Oper} {T:Nat→Fr} {S R:Nat→St} {D:Nat→Dr}
def Wr (ops:Array Oper) (T:Nat→Fr) (S R:Nat→St) (k b:Nat):Prop :=
 b<(S k).size∧(R k).low≤b∧∃ o,ops[k]? = some o∧(uni (befL ops.toList []) k=true∨storeAt (T k) o.op=some b)
def One (ops:Array Oper) (T:Nat→Fr) (S R:Nat→St) (k X:Nat):Prop :=
 k<ops.size∧¬ (S k).size≤(R k).low∧¬ uni (befL ops.toList []) k=true∧∃ o,ops[k]? = some o∧storeAt (T k) o.op=some X
noncomputable def mkr (S:Nat→St) (k X:Nat):Nat:=makerOf X ((List.range (k+1)).map fun m=>(S m).size) - 1
structure Facts (ops:Array Oper) (T:Nat→Fr) (S R:Nat→St):Prop where
 size:∀ k,k<ops.size→(S k).size≤(S (k+1)).size
 lfr:∀ k b,k<ops.size→b<(S k).size→¬ Wr ops T S R k b→(S (k+1)).heap.get b=(S k).heap.get b
 dead:∀ k b,k<ops.size→b<(S k).size→live (S (k+1)) b→live (S k) b
 tmp:∀ k o,ops[k]? = some o→∃ v,(T k).put o.dst v=some (T (k+1))
 low:∀ k,k<ops.size→(S (k+1)).low≤(R k).low∧(S (k+1)).low≤(S k).low
 one:∀ i X k o,One ops T S R i X→ops[k]? = some o→k≠i→okPair (befL ops.toList []) (S 0).size i X (mkr S i X) k (touchL (T k) o.op)=true
 made:∀ i X,One ops T S R i X→X<(S 0).size∨Bef ops (mkr S i X) i
 cls:∀ k b,k<ops.size→Wr ops T S R k b→uni (befL ops.toList []) k=true∨One ops T S R k b
theorem draw_ok {bs:List Nat} {i size low:Nat} {T:Fr} {o:Op} {D D':Dr} (h:drawOk bs i T size low o D=some D') :
  (D.wrs.isEmpty||okReads bs D.r i (touchL T o) D.wrs)=true∧D'.r=D.r∧D'.starts=D.starts++[size]∧D'.recs=(i,touchL T o)::D.recs ∧
   ((
    (size≤low∨uni bs i=true)∧D'.wrs=D.wrs)∨∃ X,storeAt T o=some X∧(X<D.r∨((bs[i]?).getD 0).testBit (makerOf X (D.starts++[size]) - 1)=true)∧okWrites bs D.r i X (makerOf X (D.starts++[size]) - 1) D.recs=true ∧
    D'.wrs=(i,X,makerOf X (D.starts++[size]) - 1)::D.wrs):=by
 obtain ⟨h1,h2⟩:=gd_some h
 refine ⟨h1,?_⟩
 cases hb:(Nat.ble size low||uni bs i) with
 | true =>
  rw [hb] at h2
  cases h2
  refine ⟨rfl,rfl,rfl,.inl ⟨?_,rfl⟩⟩
  simp only [Bool.or_eq_true] at hb
  exact hb.imp ble_le id
 | false =>
  rw [hb] at h2
  obtain ⟨X,hX,h3⟩:=ob_some h2
  obtain ⟨h4,h5⟩:=gd_some h3
  cases h5
  simp only [Bool.and_eq_true,Bool.or_eq_true] at h4
  exact ⟨rfl,rfl,rfl,.inr ⟨X,hX,h4.1.imp blt_lt id,h4.2,rfl⟩⟩
theorem low_sim {j:Inj} {h:Tr LObj} {s l l':Nat} {w:World} (hs:Sim G j ⟨h,s,l⟩ w):Sim G j ⟨h,s,l'⟩ w:=⟨hs.dom,hs.objs,hs.inj,hs.rom⟩
theorem facts_of (hG:GoodOK G) (hA:SoundCall G callF) (hC:SoundCode G codeF) (hc:(ops.toList.all fun o=>o.op.operands.toList.all constOk)=true) (hw:Way G callF codeF ops T S R D 0 ops.size) (hD0:D 0=⟨(S 0).size,[],[],[]⟩)
  {j:Inj} {a:Act} {w:World} (hs:Sim G j (S 0) w) (hT:TRel j (T 0) a.tmps):Facts ops T S R:=by
 have text:∀ k,k≤ops.size→∃ (j:Inj) (a:Act) (w:World),Sim G j (S k) w∧TRel j (T k) a.tmps:=by
  intro k
  induction k with
  | zero=>exact fun _=>⟨j,a,w,hs,hT⟩
  | succ k ih =>
   intro hk
   obtain ⟨j1,a1,w1,h1,h2⟩:=ih (by omega)
   obtain ⟨o,ho,h3,h4,_⟩:=hw.step k (Nat.zero_le _) (by omega)
   have hco:=List.all_eq_true.1 hc o (by rw [←Array.getElem?_toList] at ho;exact List.mem_of_getElem? ho)
   obtain ⟨_,v,hv,⟨v',w',j',h5,h6,h7⟩,_⟩:=step_core hG (low_sim (G:=G) h1) hA hC (h2.tmps _) hco ho h3 none 0
   refine ⟨j',a1.put o.dst v',w',?_,(h2.mono h7.sub).put hv h5⟩
   rw [h4];exact low_sim h6
 have ex:∀ k,k<ops.size→∃ j w j' w',Ext (R k).low j ⟨(S k).heap,(S k).size,(S k).size⟩ w j' (R k) w'∧(R k).low≤(S k).size:=by
  intro k hk
  obtain ⟨j1,a1,w1,h1,h2⟩:=text k (Nat.le_of_lt hk)
  obtain ⟨o,ho,h3,h4,_⟩:=hw.step k (Nat.zero_le _) hk
  have hco:=List.all_eq_true.1 hc o (by rw [←Array.getElem?_toList] at ho;exact List.mem_of_getElem? ho)
  obtain ⟨hl,v,hv,⟨v',w',j',h5,h6,h7⟩,_⟩:=step_core hG (low_sim (G:=G) h1) hA hC (h2.tmps _) hco ho h3 none 0
  exact ⟨j1,w1,j',w',h7,hl⟩
 have inv:∀ k,k≤ops.size→(D k).r=(S 0).size∧(D k).starts=(List.range k).map (fun m=>(S m).size)∧(∀ m o,m<k→ops[m]? = some o→(m,touchL (T m) o.op)∈(D k).recs) ∧
   (∀ m X,m<k→One ops T S R m X→(m,X,mkr S m X)∈(D k).wrs):=by
  intro k
  induction k with
  | zero=>intro _;rw [hD0];exact ⟨rfl,rfl,fun m o h=>by omega,fun m X h=>by omega⟩
  | succ k ih =>
   intro hk
   obtain ⟨h1,h2,h3,h4⟩:=ih (by omega)
   obtain ⟨o,ho,h5,h6,h7⟩:=hw.step k (Nat.zero_le _) (by omega)
   obtain ⟨h8,h9,h10,h11,h12⟩:=draw_ok h7
   refine ⟨h9.trans h1,?_,?_,?_⟩
   ·rw [h10,h2,List.range_succ,List.map_append];rfl
   ·intro m o' hm ho'
    rw [h11]
    by_cases e:m=k
    ·subst e;rw [ho] at ho';cases ho';simp
    ·exact List.mem_cons_of_mem _ (h3 m o' (by omega) ho')
   ·intro m X hm hone
    by_cases e:m=k
    ·subst e
     obtain ⟨_,hn1,hn2,o',ho',hst⟩:=hone
     rw [ho] at ho';cases ho'
     rcases h12 with ⟨h13,_⟩ | ⟨X',h13,_,_,h14⟩
     ·rcases h13 with h13 | h13
      ·exact absurd h13 hn1
      ·exact absurd h13 hn2
     ·rw [hst] at h13;cases h13
      rw [h14]
      have:mkr S m X=makerOf X ((D m).starts++[(S m).size]) - 1:=by
       unfold mkr;rw [h2,List.range_succ,List.map_append];rfl
      rw [this];simp
    ·have:=h4 m X (by omega) hone
     rcases h12 with ⟨_,h14⟩ | ⟨X',_,_,_,h14⟩
     ·rw [h14];exact this
     ·rw [h14];exact List.mem_cons_of_mem _ this
 refine ⟨?_,?_,?_,?_,?_,?_,?_,?_⟩
 ·intro k hk
  obtain ⟨_,_,_,_,h1,_⟩:=ex k hk
  obtain ⟨_,_,_,h2,_⟩:=hw.step k (Nat.zero_le _) hk
  rw [h2];exact h1.size
 ·intro k b hk hb hn
  obtain ⟨_,_,_,_,h1,_⟩:=ex k hk
  obtain ⟨o,ho,h3,h2,h4⟩:=hw.step k (Nat.zero_le _) hk
  rw [h2]
  show (R k).heap.get b=_
  by_cases hlo:b<(R k).low
  ·exact h1.lfr b hb hlo
  ·obtain ⟨_,_,_,_,h12⟩:=draw_ok h4
   rcases h12 with ⟨h13,_⟩ | ⟨X,h13,_⟩
   ·rcases h13 with h13 | h13
    ·exact absurd (Nat.lt_of_lt_of_le hb h13) hlo
    ·exact absurd ⟨hb,by omega,o,ho,.inl h13⟩ hn
   ·refine step_store h3 h13 b hb fun e=>hn ⟨hb,by omega,o,ho,.inr (by rw [e];exact h13)⟩
 ·intro k b hk hb hv
  obtain ⟨_,_,_,_,h1,_⟩:=ex k hk
  obtain ⟨_,_,_,h2,_⟩:=hw.step k (Nat.zero_le _) hk
  rw [h2] at hv
  exact h1.dead b hb hv
 ·intro k o ho
  have hk:k<ops.size:=(Array.getElem?_eq_some_iff.1 ho).1
  obtain ⟨o',ho',h3,_⟩:=hw.step k (Nat.zero_le _) hk
  rw [ho] at ho';cases ho'
  exact step_T h3
 ·intro k hk
  obtain ⟨_,_,_,h2,_⟩:=hw.step k (Nat.zero_le _) hk
  rw [h2]
  exact ⟨Nat.min_le_right _ _,Nat.min_le_left _ _⟩
 ·intro i X k o hone hk hne
  have hk':k<ops.size:=(Array.getElem?_eq_some_iff.1 hk).1
  have hi':=hone.1
  by_cases hlt:k<i
  ·obtain ⟨o',ho',_,_,h7⟩:=hw.step i (Nat.zero_le _) hi'
   obtain ⟨h1,h2,h3,h4⟩:=inv i (Nat.le_of_lt hi')
   obtain ⟨h8,h9,h10,h11,h12⟩:=draw_ok h7
   obtain ⟨_,hn1,hn2,o2,ho2,hst⟩:=hone
   rw [ho'] at ho2;cases ho2
   rcases h12 with ⟨h13,_⟩ | ⟨X',h13,_,h15,_⟩
   ·rcases h13 with h13 | h13
    ·exact absurd h13 hn1
    ·exact absurd h13 hn2
   ·rw [hst] at h13;cases h13
    have:=List.all_eq_true.1 h15 _ (h3 k o hlt hk)
    rw [h1] at this
    have e:mkr S i X=makerOf X ((D i).starts++[(S i).size]) - 1:=by
     unfold mkr;rw [h2,List.range_succ,List.map_append];rfl
    rw [e];exact this
  ·obtain ⟨o',ho',_,_,h7⟩:=hw.step k (Nat.zero_le _) hk'
   rw [hk] at ho';cases ho'
   obtain ⟨h1,h2,h3,h4⟩:=inv k (Nat.le_of_lt hk')
   obtain ⟨h8,_⟩:=draw_ok h7
   have hmem:=h4 i X (by omega) hone
   simp only [Bool.or_eq_true,List.isEmpty_iff] at h8
   rcases h8 with h8 | h8
   ·rw [h8] at hmem;cases hmem
   ·have:=List.all_eq_true.1 h8 _ hmem
    rw [h1] at this
    exact this
 ·intro i X hone
  have hi':=hone.1
  obtain ⟨o',ho',_,_,h7⟩:=hw.step i (Nat.zero_le _) hi'
  obtain ⟨h1,h2,h3,h4⟩:=inv i (Nat.le_of_lt hi')
  obtain ⟨h8,h9,h10,h11,h12⟩:=draw_ok h7
  obtain ⟨_,hn1,hn2,o2,ho2,hst⟩:=hone
  rw [ho'] at ho2;cases ho2
  rcases h12 with ⟨h13,_⟩ | ⟨X',h13,h14,_,_⟩
  ·rcases h13 with h13 | h13
   ·exact absurd h13 hn1
   ·exact absurd h13 hn2
  ·rw [hst] at h13;cases h13
   have e:mkr S i X=makerOf X ((D i).starts++[(S i).size]) - 1:=by
    unfold mkr;rw [h2,List.range_succ,List.map_append];rfl
   rw [h1] at h14
   rw [e];exact h14
 ·intro k b hk hwr
  obtain ⟨hb,hlo,o,ho,h1⟩:=hwr
  rcases h1 with h1 | h1
  ·exact .inl h1
  ·by_cases hu:uni (befL ops.toList []) k=true
   ·exact .inl hu
   ·exact .inr ⟨hk,by omega,hu,o,ho,h1⟩
end
end Go.Proofs.YtbieflpgjmgaiaaGreat
/- A region that draws its order: one step, out of whatever has been done. -/
namespace Go.Proofs.YtbieflpgjmgaiaaGreat
section
variable {G:Good} {callF:CallF} {codeF:CodeF} {ops:Array Oper} {T:Nat→Fr} {S R:Nat→St}
theorem Facts.size_mono (F:Facts ops T S R) {k k':Nat} (h:k≤k') (hk:k'≤ops.size):(S k).size≤(S k').size:=by
 induction k' with
 | zero =>
      obtain rfl:k=0:=by omega
      exact Nat.le_refl _
 | succ n ih =>
  by_cases e:k=n+1
  ·rw [e];exact Nat.le_refl _
  ·exact Nat.le_trans (ih (by omega) (by omega)) (F.size n (by omega))
theorem Facts.low_mono (F:Facts ops T S R) {k k':Nat} (h:k≤k') (hk:k'≤ops.size):(S k').low≤(S k).low:=by
 induction k' with
 | zero =>
      obtain rfl:k=0:=by omega
      exact Nat.le_refl _
 | succ n ih =>
  by_cases e:k=n+1
  ·rw [e];exact Nat.le_refl _
  ·exact Nat.le_trans (F.low n (by omega)).2 (ih (by omega) (by omega))
theorem Facts.low_le (F:Facts ops T S R) {k:Nat} (hk:k<ops.size):(S ops.size).low≤(R k).low:=Nat.le_trans (F.low_mono (show k+1≤ops.size from hk) (Nat.le_refl _)) (F.low k hk).1
theorem Facts.dead_mono (F:Facts ops T S R) {k k' b:Nat} (h:k≤k') (hk:k'≤ops.size) (hb:b<(S k).size):live (S k') b→live (S k) b:=by
 induction k' with
 | zero =>
      obtain rfl:k=0:=by omega
      exact id
 | succ n ih =>
  by_cases e:k=n+1
  ·rw [e];exact id
  ·exact fun hv=>ih (by omega) (by omega) (F.dead n b (by omega) (Nat.lt_of_lt_of_le hb (F.size_mono (show k≤n by omega) (by omega))) hv)
theorem Facts.keep (F:Facts ops T S R) {k k' b:Nat} (h:k≤k') (hk:k'≤ops.size) (hb:b<(S k).size) (hn:∀ m,k≤m→m<k'→¬ Wr ops T S R m b):(S k').heap.get b=(S k).heap.get b:=by
 induction k' with
 | zero =>
      obtain rfl:k=0:=by omega
      rfl
 | succ n ih =>
  by_cases e:k=n+1
  ·rw [e]
  ·rw [F.lfr n b (by omega) (Nat.lt_of_lt_of_le hb (F.size_mono (show k≤n by omega) (by omega))) (hn n (by omega) (by omega))]
   exact ih (by omega) (by omega) fun m h1 h2=>hn m h1 (by omega)
theorem Facts.tkeep (F:Facts ops T S R) {k k' t:Nat} (h:k≤k') (hk:k'≤ops.size) (hn:∀ m o,k≤m→m<k'→ops[m]? = some o→o.dst≠some t):(T k').t.get t=(T k).t.get t:=by
 induction k' with
 | zero =>
      obtain rfl:k=0:=by omega
      rfl
 | succ n ih =>
  by_cases e:k=n+1
  ·rw [e]
  ·have hlt:n<ops.size:=by omega
   obtain ⟨v,hv⟩:=F.tmp n ops[n] (Array.getElem?_eq_getElem hlt)
   rw [put_other hv (hn n _ (by omega) (by omega) (Array.getElem?_eq_getElem hlt))]
   exact ih (by omega) (by omega) fun m o h1 h2=>hn m o h1 (by omega)
theorem Facts.tn (F:Facts ops T S R) {k:Nat} (hk:k≤ops.size):(T k).n=(T 0).n:=by
 induction k with
 | zero=>rfl
 | succ n ih =>
  have hlt:n<ops.size:=by omega
  obtain ⟨v,hv⟩:=F.tmp n ops[n] (Array.getElem?_eq_getElem hlt)
  rw [put_n hv];exact ih (by omega)
theorem Facts.uniq (F:Facts ops T S R) {m m' b:Nat} (hm:m<ops.size) (hm':m'<ops.size) (h1:(S m).size≤b) (h2:b<(S (m+1)).size) (h3:(S m').size≤b) (h4:b<(S (m'+1)).size):m=m':=by
 rcases Nat.lt_trichotomy m m' with h | h | h
 ·have:=F.size_mono (show m+1≤m' from h) (by omega);omega
 ·exact h
 ·have:=F.size_mono (show m'+1≤m from h) (by omega);omega
theorem Facts.mkr_spec (F:Facts ops T S R) {i X:Nat} (hi:i<ops.size) (h1:(S 0).size≤X) (h2:X<(S i).size):mkr S i X<i∧(S (mkr S i X)).size≤X∧X<(S (mkr S i X+1)).size:=by
 obtain ⟨h3,h4,h5⟩:=makerOf_spec (X:=X) ((List.range (i+1)).map fun m=>(S m).size)
 have hget:∀ k,k<i+1→((List.range (i+1)).map fun m=>(S m).size)[k]? = some (S k).size:=fun k hk=>by simp [hk]
 have hc0:makerOf X ((List.range (i+1)).map fun m=>(S m).size)≠0:=fun e=>by
  rw [e] at h5
  have:=h5 _ (hget 0 (by omega));omega
 have hci:makerOf X ((List.range (i+1)).map fun m=>(S m).size)≤i:=by
  rcases Nat.lt_or_ge i (makerOf X ((List.range (i+1)).map fun m=>(S m).size)) with h | h
  ·have:=h4 i _ h (hget i (by omega));omega
  ·exact h
 unfold mkr
 refine ⟨by omega,h4 _ _ (by omega) (hget _ (by omega)),?_⟩
 rw [show makerOf X ((List.range (i+1)).map fun m=>(S m).size) - 1+1=makerOf X ((List.range (i+1)).map fun m=>(S m).size) by omega]
 exact h5 _ (hget _ (by omega))
def View (ops:Array Oper) (T:Nat→Fr) (S R:Nat→St) (p:Nat→Prop) (b k:Nat):Prop:=∀ m,m<ops.size→Wr ops T S R m b→(p m ↔ m<k)
def TView (ops:Array Oper) (p:Nat→Prop) (t k:Nat):Prop:=∀ m o,ops[m]? = some o→o.dst=some t→(p m ↔ m<k)
theorem Facts.view_eq (F:Facts ops T S R) {p:Nat→Prop} {b k k':Nat} (hk:k≤ops.size) (hk':k'≤ops.size) (hb:b<(S k).size) (hb':b<(S k').size) (h:View ops T S R p b k) (h':View ops T S R p b k'):(S k).heap.get b=(S k').heap.get b:=by
 rcases Nat.le_total k k' with hle | hle
 ·refine (F.keep hle hk' hb fun m h1 h2 hw=>?_).symm
  have:=(h m (by omega) hw).1 ((h' m (by omega) hw).2 h2);omega
 ·refine F.keep hle hk hb' fun m h1 h2 hw=>?_
  have:=(h' m (by omega) hw).1 ((h m (by omega) hw).2 h2);omega
structure Inv (G:Good) (ops:Array Oper) (T:Nat→Fr) (S R:Nat→St) (j0:Inj) (a0:Act) (w0:World) (p:Nat→Prop) (a:Act) (w:World) (j:Inj):Prop where
 sub:Le j0 j
 dom:∀ b x,j b=some x→x.blk<w.heap.size∧((b<(S 0).size∧j0 b=some x)∨∃ m,m<ops.size∧p m∧(S m).size≤b∧b<(S (m+1)).size)
 all:∀ m,m<ops.size→p m→∀ b,(S m).size≤b→b<(S (m+1)).size→∃ x,j b=some x
 tmps:∀ t k,k≤ops.size→TView ops p t k→∀ v,(T k).t.get t=some v→∃ v',a.tmps[t]? = some v'∧VRel j v v'
 mem:∀ b x k o,j b=some x→k≤ops.size→b<(S k).size→View ops T S R p b k→(S k).heap.get b=some o→∃ o',w.heap[x.blk]? = some o'∧ORel G j x o o'
 inj:∀ b c x y k k',j b=some x→j c=some y→k≤ops.size→b<(S k).size→View ops T S R p b k→live (S k) b→k'≤ops.size→c<(S k').size→View ops T S R p c k'→live (S k') c→x.blk=y.blk→b=c
 defs:a.defers=a0.defers
 tsz:a.tmps.size=a0.tmps.size
 heap:w0.heap.size≤w.heap.size
 fr:∀ c,c<w0.heap.size→(∀ b x,j0 b=some x→(S ops.size).low≤b→live (S 0) b→x.blk≠c)→w.heap[c]? = w0.heap[c]?
 new:∀ b x,j b=some x→j0 b=none→w0.heap.size≤x.blk∨∃ c y,j0 c=some y∧(S ops.size).low≤c∧live (S 0) c∧y.blk=x.blk
 io:SameIo w0 w
theorem ORel.meet {j k:Inj} {x y:JB} {o:LObj} {o' o'':Obj} (h:ORel G j x o o') (h':ORel G k y o o''):ORel G (meet j k) x o o':=by
 cases o with
 | cells c e =>
  obtain ⟨c',e',h1,h2,h3,h4,h5⟩:=h
  obtain ⟨_,_,_,_,_,_,h6⟩:=h'
  exact ⟨c',e',h1,h2,h3,h4,fun i v hi=>let ⟨v',a,b⟩:=h5 i v hi;let ⟨_,_,d⟩:=h6 i v hi;⟨v',a,b.meet d⟩⟩
 | map es =>
  obtain ⟨es',c,h1,h2,h3⟩:=h
  obtain ⟨_,_,_,_,h4⟩:=h'
  exact ⟨es',c,h1,h2,fun i p hi=>let ⟨e,a,b,d⟩:=h3 i p hi;let ⟨_,_,b',d'⟩:=h4 i p hi;⟨e,a,b.meet b',d.meet d'⟩⟩
 | loop st pd T ps asg body =>
  obtain ⟨L,h1,h2,h3,h4,h5,h6,h7,h8⟩:=h
  obtain ⟨_,_,_,_,_,_,_,h9,_⟩:=h'
  exact ⟨L,h1,h2,h3,h4,h5,h6,⟨h7.1,fun t v hv=>let ⟨v',a,b⟩:=h7.2 t v hv;let ⟨_,_,d⟩:=h9.2 t v hv;⟨v',a,b.meet d⟩⟩,h8⟩
 | nilIter=>exact h
 | strIter s pos=>exact h
 | dead=>trivial
variable {j0:Inj} {a0:Act} {w0:World}
theorem inv_start {p:Nat→Prop} (hp:∀ m,m<ops.size→¬ p m) (F:Facts ops T S R) (hs:Sim G j0 (S 0) w0) (hT:TRel j0 (T 0) a0.tmps) {w:World} (hw:w.heap=w0.heap) (hio:SameIo w0 w:=by exact ⟨rfl,rfl,rfl⟩):Inv G ops T S R j0 a0 w0 p a0 w j0 where
 io:=hio
 sub:=Le.refl _
 dom:=fun b x hb=>⟨by rw [hw];exact (hs.dom b x hb).2,.inl ⟨(hs.dom b x hb).1,hb⟩⟩
 all:=fun m hm h=>absurd h (hp m hm)
 tmps:=fun t k hk hv v hg=>by
  rw [F.tkeep (Nat.zero_le k) hk fun m o _ h2 ho e=>hp m (by omega) ((hv m o ho e).2 h2)] at hg
  exact hT.2 t v hg
 mem:=fun b x k o hb hk _ hv ho=>by
  rw [F.keep (Nat.zero_le k) hk (hs.dom b x hb).1 fun m _ h2 e=>hp m (by omega) ((hv m (by omega) e).2 h2)] at ho
  rw [hw];exact hs.objs b x o hb ho
 inj:=fun b c x y k k' hb hc hk _ hv lb hk' _ hv' lc e=>hs.inj b c x y hb hc (F.dead_mono (Nat.zero_le k) hk (hs.dom b x hb).1 lb) (F.dead_mono (Nat.zero_le k') hk' (hs.dom c y hc).1 lc) e
 defs:=rfl
 tsz:=rfl
 heap:=by rw [hw];exact Nat.le_refl _
 fr:=fun c _ _=>by rw [hw]
 new:=fun b x hb hn=>by rw [hb] at hn;cases hn
theorem inv_rom {p:Nat→Prop} (F:Facts ops T S R) (hs0:Sim G j0 (S 0) w0) {a:Act} {w:World} {j jm:Inj} (hI:Inv G ops T S R j0 a0 w0 p a w j) (h0:Le j0 jm) (hm:Le jm j) {X:St} (hX:∀ d,live X d→∃ i,i≤ops.size∧live (S i) d):Rom G jm X w:=by
 intro b c hb
 obtain ⟨x,hx,hrb,h6⟩:=hs0.rom b c hb
 refine ⟨x,h0 b x hx,fun hne=>?_,fun d y hd hl e=>?_⟩
 obtain ⟨c',e',fr,h1,h2,h3,h4,h5⟩:=hrb hne
 refine ⟨c',e',fr,?_,h2,h3,h4,fun i v hi=>?_⟩
 ·rw [hI.fr x.blk (hs0.dom b x hx).2 fun d y hd _ hl=>h6 d y hd hl];exact h1
 ·obtain ⟨v',k1,k2⟩:=h5 i v hi
  exact ⟨v',k1,k2.mono h0⟩
 ·have hjd:=hm d y hd
  cases hj0:j0 d with
  | some z =>
   have:=hI.sub d z hj0
   rw [hjd] at this;cases this
   obtain ⟨i,hi,hl'⟩:=hX d hl
   exact h6 d y hj0 (F.dead_mono (Nat.zero_le i) hi (hs0.dom d y hj0).1 hl') e
  | none =>
   rcases hI.new d y hjd hj0 with h7 | ⟨k,z,h8,_,h9,h10⟩
   ·have:=(hs0.dom b x hx).2;omega
   ·exact h6 k z h8 h9 (by rw [h10,e])
theorem conf (F:Facts ops T S R) {i m b:Nat} {oi:Oper} (hoi:ops[i]? = some oi) (hm:m<ops.size) (hne:i≠m) (hwr:Wr ops T S R m b) {a:Act} {w:World} {j:Inj} (hI:Inv G ops T S R j0 a0 w0 (fun m=>Bef ops m i) a w j) {x:JB} (hx:j b=some x) :
  (Bef ops m i∨Bef ops i m)∨(One ops T S R m b∧∃ lt,touchL (T i) oi.op=some lt∧b ∉ lt):=by
 have hi:i<ops.size:=(Array.getElem?_eq_some_iff.1 hoi).1
 rcases F.cls m b hm hwr with hu | hone
 ·exact .inl ((uni_spec hu i hi hne).symm)
 ·have h1:=F.one m b i oi hone hoi hne
  unfold okPair at h1
  simp only [Bool.or_eq_true,Bool.and_eq_true,Bool.not_eq_true'] at h1
  rcases h1 with h1 | h1 | h1
  ·exact .inl ((compL_iff.1 h1).symm)
  ·exfalso
   obtain ⟨h2,h3⟩:=h1
   have h2:=ble_le h2
   rcases (hI.dom b x hx).2 with ⟨h4,_⟩ | ⟨m',h4,h5,h6,h7⟩
   ·omega
   ·obtain ⟨h8,h9,h10⟩:=F.mkr_spec hm h2 hwr.1
    have:=F.uniq (by omega) h4 h9 h10 h6 h7
    rw [this] at h3
    unfold Bef at h5
    rw [h5] at h3;cases h3
  ·refine .inr ⟨hone,?_⟩
   cases ht:touchL (T i) oi.op with
   | none=>rw [ht] at h1;cases h1
   | some lt =>
    rw [ht] at h1
    refine ⟨lt,rfl,fun hb=>?_⟩
    have:=List.all_eq_true.1 h1 b hb
    simp at this
end
end Go.Proofs.YtbieflpgjmgaiaaGreat
/- A region that draws its order: the step, and the whole. -/
namespace Go.Proofs.YtbieflpgjmgaiaaGreat
section
variable {G:Good} {callF:CallF} {codeF:CodeF} {ops:Array Oper} {T:Nat→Fr} {S R:Nat→St} {D:Nat→Dr} {j0:Inj} {a0:Act} {w0:World}
theorem meet_inv {j k:Inj} {b:Nat} {x:JB} (h:meet j k b=some x):j b=some x∧∃ y,k b=some y:=by
 unfold meet at h
 split at h
 ·rename_i hk;exact ⟨h,Option.isSome_iff_exists.1 hk⟩
 ·cases h
theorem fresh_bef (F:Facts ops T S R) {i m b:Nat} (hi:i<ops.size) (hm:m<ops.size) (h1:(S i).size≤b) (h2:b<(S (i+1)).size) (hne:i≠m) (hdr:Drawn ops) (him:i<m) (hwr:Wr ops T S R m b):Bef ops i m:=by
 rcases F.cls m b hm hwr with hu | hone
 ·rcases uni_spec hu i hi hne with h | h
  ·exact h
  ·have:=bef_lt hdr.edge h;omega
 ·have h0:=F.size_mono (Nat.zero_le i) (Nat.le_of_lt hi)
  rcases F.made m b hone with h | h
  ·omega
  ·obtain ⟨h3,h4,h5⟩:=F.mkr_spec hm (by omega) hwr.1
   have:=F.uniq (by omega) hi h4 h5 h1 h2
   rw [this] at h;exact h
open Classical in
theorem main_step (hG:GoodOK G) (hA:SoundCall G callF) (hC:SoundCode G codeF) (hc:(ops.toList.all fun o=>o.op.operands.toList.all constOk)=true) (hw:Way G callF codeF ops T S R D 0 ops.size) (F:Facts ops T S R) (hdr:Drawn ops)
  (hs0:Sim G j0 (S 0) w0) (hT0:(T 0).n≤a0.tmps.size) {p:Nat→Prop} {a:Act} {w:World} {j:Inj} {i:Nat} {oi:Oper} (hoi:ops[i]? = some oi) (hpi:¬ p i) (hpB:∀ m,Bef ops m i→p m) (hcl:Cl ops p)
  (hI:Inv G ops T S R j0 a0 w0 p a w j) {ac:Act} {wc:World} {jc:Inj} (hK:Inv G ops T S R j0 a0 w0 (fun m=>Bef ops m i) ac wc jc) (rd':Option Nat) (n:Nat) :
  (∃ v' w' j',Inv G ops T S R j0 a0 w0 (fun m=>p m∨m=i) (a.put oi.dst v') w' j') ∧
  ∀ (K:Act→World→Prop) (Q:Exit→Act→World→Prop),(∀ v' w' j',Inv G ops T S R j0 a0 w0 (fun m=>p m∨m=i) (a.put oi.dst v') w' j'→K (a.put oi.dst v') w')→wpOpIn (fenceOf rd') n G.P ops Q i K a w:=by
 have hi:i<ops.size:=(Array.getElem?_eq_some_iff.1 hoi).1
 obtain ⟨o,ho,hst,hS1,_⟩:=hw.step i (Nat.zero_le _) hi
 rw [hoi] at ho;cases ho
 have hco:=List.all_eq_true.1 hc oi (by rw [←Array.getElem?_toList] at hoi;exact List.mem_of_getElem? hoi)
 have hmono:=F.size i hi
 have h0i:=F.size_mono (Nat.zero_le i) (Nat.le_of_lt hi)
 -- what is ordered against i
 have cmp:∀ m,(Bef ops m i∨Bef ops i m)→(p m ↔ m<i)∧(Bef ops m i ↔ m<i):=by
  intro m h
  rcases h with h | h
  ·have:=bef_lt hdr.edge h
   exact ⟨⟨fun _=>this,fun _=>hpB m h⟩,⟨fun _=>this,fun _=>h⟩⟩
  ·have h1:=bef_lt hdr.edge h
   exact ⟨⟨fun hp=>absurd (bef_closed h hcl hp) hpi,fun h2=>by omega⟩,⟨fun h2=>by have:=bef_lt hdr.edge h2;omega,fun h2=>by omega⟩⟩
 have self:∀ m,m=i→(p m ↔ m<i)∧(Bef ops m i ↔ m<i):=by
  rintro m rfl
  exact ⟨⟨fun h=>absurd h hpi,fun h=>by omega⟩,⟨fun h=>bef_lt hdr.edge h,fun h=>by omega⟩⟩
 have hconf:∀ m b,m<ops.size→i≠m→Wr ops T S R m b→(∃ y,jc b=some y)→(Bef ops m i∨Bef ops i m)∨(One ops T S R m b∧∃ lt,touchL (T i) oi.op=some lt∧b ∉ lt):=by
  rintro m b hm hne hwr ⟨y,hy⟩
  exact conf F hoi hm hne hwr hK hy
 -- the blocks to give up
 obtain ⟨NK,hNK⟩:∃ NK:Nat→Prop,∀ X,NK X ↔ X<(S i).size∧(∃ y,jc X=some y)∧∃ m,m<ops.size∧i≠m∧Wr ops T S R m X∧¬ (Bef ops m i∨Bef ops i m):=⟨_,fun _=>Iff.rfl⟩
 obtain ⟨l,hl⟩:∃ l:List Nat,∀ X,X∈l ↔ NK X:=by
  refine ⟨((List.range ops.size).filterMap fun m=>(ops[m]?).bind fun o=>storeAt (T m) o.op).filter (fun X=>decide (NK X)),fun X=>?_⟩
  rw [List.mem_filter,decide_eq_true_eq]
  refine ⟨fun h=>h.2,fun h=>⟨?_,h⟩⟩
  obtain ⟨_,hy,m,hm,hne,hwr,hnc⟩:=(hNK X).1 h
  rcases hconf m X hm hne hwr hy with h1 | ⟨⟨_,_,_,o,ho,hst⟩,_⟩
  ·exact absurd h1 hnc
  ·exact List.mem_filterMap.2 ⟨m,by simpa using hm,by rw [ho];exact hst⟩
 have hllt:∀ X∈l,X<(S i).size:=fun X hX=>((hNK X).1 ((hl X).1 hX)).1
 have hlt:∀ X∈l,∃ lt,touchL (T i) oi.op=some lt∧X ∉ lt:=by
  intro X hX
  obtain ⟨_,hy,m,hm,hne,hwr,hnc⟩:=(hNK X).1 ((hl X).1 hX)
  rcases hconf m X hm hne hwr hy with h1 | ⟨_,h1⟩
  ·exact absurd h1 hnc
  ·exact h1
 have htouch:l=[]∨∃ lt,touchL (T i) oi.op=some lt∧∀ X∈lt,X ∉ l:=by
  by_cases he:l=[]
  ·exact .inl he
  ·obtain ⟨X,hX⟩:=List.exists_mem_of_ne_nil l he
   obtain ⟨lt,h1,_⟩:=hlt X hX
   refine .inr ⟨lt,h1,fun Y hY hYl=>?_⟩
   obtain ⟨lt',h2,h3⟩:=hlt Y hYl
   rw [h1] at h2;cases h2
   exact h3 hY
 obtain ⟨Rk,hstk,hkd⟩:=step_kill (S:=⟨(S i).heap,(S i).size,(S i).size⟩) hllt htouch hst
 have hkg:∀ b,(kill ⟨(S i).heap,(S i).size,(S i).size⟩ l).heap.get b=if b∈l then some .dead else (S i).heap.get b:=fun b=>get_kill _ _ _
 -- the views of what i may reach
 have hV:∀ b,(∃ y,jc b=some y)→b ∉ l→b<(S i).size→View ops T S R p b i∧View ops T S R (fun m=>Bef ops m i) b i:=by
  intro b hy hbl hb
  have key:∀ m,m<ops.size→Wr ops T S R m b→(p m ↔ m<i)∧(Bef ops m i ↔ m<i):=by
   intro m hm hwr
   by_cases hmi:m=i
   ·exact self m hmi
   ·by_cases hcm:Bef ops m i∨Bef ops i m
    ·exact cmp m hcm
    ·exact absurd ((hl b).2 ((hNK b).2 ⟨hb,hy,m,hm,fun e=>hmi e.symm,hwr,hcm⟩)) hbl
  exact ⟨fun m hm hwr=>(key m hm hwr).1,fun m hm hwr=>(key m hm hwr).2⟩
 have hcdom:∀ b y,jc b=some y→b<(S i).size:=by
  intro b y hb
  rcases (hK.dom b y hb).2 with ⟨h1,_⟩ | ⟨m,hm,h1,h2,h3⟩
  ·omega
  ·have:=bef_lt hdr.edge h1
   have:=F.size_mono (show m+1≤i from this) (Nat.le_of_lt hi)
   omega
 have hlv:∀ b,live (kill ⟨(S i).heap,(S i).size,(S i).size⟩ l) b→b ∉ l∧live (S i) b:=by
  rintro b ⟨o,ho,hd⟩
  rw [hkg] at ho
  split at ho
  ·cases ho;exact absurd rfl hd
  ·rename_i h;exact ⟨h,o,ho,hd⟩
 have hSim:Sim G (meet j jc) (kill ⟨(S i).heap,(S i).size,(S i).size⟩ l) w:=by
  refine ⟨fun b x hb=>?_,fun b x o hb ho=>?_,fun b c x y hb hcb lb lc e=>?_,inv_rom F hs0 hI (fun b x hb=>meet_of (hI.sub b x hb) (hK.sub b x hb)) (meet_le j jc) (fun d hd=>⟨i,Nat.le_of_lt hi,(hlv d hd).2⟩)⟩
  ·obtain ⟨h1,y,h2⟩:=meet_inv hb
   exact ⟨hcdom b y h2,(hI.dom b x h1).1⟩
  ·obtain ⟨h1,y,h2⟩:=meet_inv hb
   rw [hkg] at ho
   split at ho
   ·cases ho
    have:=(hI.dom b x h1).1
    exact ⟨w.heap[x.blk],by rw [Array.getElem?_eq_getElem],trivial⟩
   ·rename_i hbl
    have hb':=hcdom b y h2
    obtain ⟨v1,v2⟩:=hV b ⟨y,h2⟩ hbl hb'
    obtain ⟨o',h3,h4⟩:=hI.mem b x i o h1 (Nat.le_of_lt hi) hb' v1 ho
    obtain ⟨o'',_,h5⟩:=hK.mem b y i o h2 (Nat.le_of_lt hi) hb' v2 ho
    exact ⟨o',h3,h4.meet h5⟩
  ·obtain ⟨h1,y1,h2⟩:=meet_inv hb
   obtain ⟨h3,y2,h4⟩:=meet_inv hcb
   obtain ⟨lb1,lb2⟩:=hlv b lb
   obtain ⟨lc1,lc2⟩:=hlv c lc
   exact hI.inj b c x y i i h1 h3 (Nat.le_of_lt hi) (hcdom b y1 h2) (hV b ⟨y1,h2⟩ lb1 (hcdom b y1 h2)).1 lb2 (Nat.le_of_lt hi) (hcdom c y2 h4) (hV c ⟨y2,h4⟩ lc1 (hcdom c y2 h4)).1 lc2 e
 have hRel:RelTmps (meet j jc) (T i) a.tmps (readsOf ops oi):=by
  intro t ht v hv
  have key:∀ m o,ops[m]? = some o→o.dst=some t→(p m ↔ m<i)∧(Bef ops m i ↔ m<i):=by
   intro m o ho hd
   rcases Nat.lt_trichotomy m i with h | h | h
   ·rcases hdr.apart m i o oi ho hoi h with h1 | ⟨h1,_⟩
    ·exact cmp m (.inl h1)
    ·exact absurd ht (h1 t hd).1
   ·exact self m h
   ·rcases hdr.apart i m oi o hoi ho h with h1 | ⟨_,h1⟩
    ·exact cmp m (.inr h1)
    ·exact absurd ht (h1 t hd)
  obtain ⟨v',h1,h2⟩:=hI.tmps t i (Nat.le_of_lt hi) (fun m o ho hd=>(key m o ho hd).1) v hv
  obtain ⟨v'',_,h3⟩:=hK.tmps t i (Nat.le_of_lt hi) (fun m o ho hd=>(key m o ho hd).2) v hv
  exact ⟨v',h1,h2.meet h3⟩
 obtain ⟨hlow,v,hv,hex,hW⟩:=step_core hG hSim hA hC hRel hco hoi hstk rd' n
 have hRs:Rk.size=(S (i+1)).size:=by rw [hkd.1,hS1]
 have hRl:Rk.low=(R i).low:=hkd.2.1
 have hRg:∀ b,Rk.heap.get b=if b∈l then some .dead else (S (i+1)).heap.get b:=fun b=>by rw [hkd.2.2 b,hS1]
 -- behind the step
 have core:∀ v' w' ji',VRel ji' v v'→Sim G ji' Rk w'→Ext Rk.low (meet j jc) (kill ⟨(S i).heap,(S i).size,(S i).size⟩ l) w ji' Rk w'→∃ j',Inv G ops T S R j0 a0 w0 (fun m=>p m∨m=i) (a.put oi.dst v') w' j':=by
  intro v' w' ji' hv' hs' he
  have n1:∀ b,(S i).size≤b→b<(S (i+1)).size→j b=none:=by
   intro b h1 h2
   cases hb:j b with
   | none=>rfl
   | some x =>
    rcases (hI.dom b x hb).2 with ⟨h3,_⟩ | ⟨m,hm,h3,h4,h5⟩
    ·omega
    ·have:=F.uniq hm hi h4 h5 h1 h2
     rw [this] at h3;exact absurd h3 hpi
  have n2:∀ b x,ji' b=some x→((S i).size≤b∧b<(S (i+1)).size)∨meet j jc b=some x:=by
   intro b x hb
   have hd:=(hs'.dom b x hb).1
   rw [hRs] at hd
   by_cases h1:(S i).size≤b
   ·exact .inl ⟨h1,hd⟩
   ·refine .inr ?_
    cases hm:meet j jc b with
    | none=>have:=(he.new b x hb hm).1;exact absurd this h1
    | some y=>have:=he.sub b y hm;rw [hb] at this;cases this;rfl
  obtain ⟨j',hj'⟩:∃ j':Inj,∀ b,j' b=if (S i).size≤b∧b<(S (i+1)).size then ji' b else j b:=⟨_,fun _=>rfl⟩
  have hle:Le j j':=by
   intro b x hb
   rw [hj']
   split
   ·rename_i h;rw [n1 b h.1 h.2] at hb;cases hb
   ·exact hb
  have hle':Le ji' j':=by
   intro b x hb
   rw [hj']
   split
   ·exact hb
   ·rename_i h
    rcases n2 b x hb with h1 | h1
    ·exact absurd h1 h
    ·exact (meet_inv h1).1
  -- an elder block: within reach,or not
  have old:∀ b x k,j b=some x→¬ ((S i).size≤b∧b<(S (i+1)).size)→k≤ops.size→b<(S k).size→View ops T S R (fun m=>p m∨m=i) b k →
    (meet j jc b=some x∧b ∉ l∧(S k).heap.get b=(S (i+1)).heap.get b)∨(¬ (b ∉ l∧∃ y,meet j jc b=some y)∧View ops T S R p b k):=by
   intro b x k hb hnr hk hbk hvw
   by_cases hA:b ∉ l∧∃ y,jc b=some y
   ·obtain ⟨hbl,y,hy⟩:=hA
    have hbi:=hcdom b y hy
    refine .inl ⟨meet_of hb hy,hbl,F.view_eq hk hi hbk (by omega) hvw fun m hm hwr=>?_⟩
    by_cases hmi:m=i
    ·subst hmi;exact ⟨fun _=>by omega,fun _=>.inr rfl⟩
    ·have:=(hV b ⟨y,hy⟩ hbl hbi).1 m hm hwr
     constructor
     ·rintro (h | h)
      ·have:=this.1 h;omega
      ·exact absurd h hmi
     ·intro h;exact .inl (this.2 (by omega))
   ·have hnw:¬ Wr ops T S R i b:=by
     intro hwr
     by_cases hbl:b∈l
     ·obtain ⟨_,hy,m,hm,hne,hwm,hnc⟩:=(hNK b).1 ((hl b).1 hbl)
      rcases F.cls i b hi hwr with hu | ⟨_,_,_,o,ho,hst⟩
      ·exact hnc (uni_spec hu m hm fun e=>hne e.symm)
      ·rw [hoi] at ho;cases ho
       obtain ⟨lt,h1,h2⟩:=hlt b hbl
       exact h2 (store_touch hst h1)
     ·have hnone:∀ y,jc b≠some y:=fun y hy=>hA ⟨hbl,y,hy⟩
      rcases F.cls i b hi hwr with hu | ⟨_,_,_,o,ho,hst⟩
      ·rcases (hI.dom b x hb).2 with ⟨_,h1⟩ | ⟨m,hm,h1,h2,h3⟩
       ·exact hnone x (hK.sub b x h1)
       ·have hmi:m≠i:=fun e=>hpi (by rw [←e];exact h1)
        rcases uni_spec hu m hm hmi with h4 | h4
        ·obtain ⟨y,hy⟩:=hK.all m hm h4 b h2 h3
         exact hnone y hy
        ·exact hpi (bef_closed h4 hcl h1)
      ·rw [hoi] at ho;cases ho
       obtain ⟨y,hy⟩:=store_dom hst (hRel.ops hco)
       obtain ⟨_,z,hz⟩:=meet_inv hy
       exact hnone z hz
    refine .inr ⟨fun ⟨h1,y,h2⟩=>hA ⟨h1,(meet_inv h2).2⟩,fun m hm hwr=>?_⟩
    have hmi:m≠i:=fun e=>hnw (by rw [←e];exact hwr)
    have:=hvw m hm hwr
    constructor
    ·intro h;exact this.1 (.inl h)
    ·intro h;rcases this.2 h with h | h
     ·exact h
     ·exact absurd h hmi
  have young:∀ b k,(S i).size≤b→b<(S (i+1)).size→k≤ops.size→b<(S k).size→View ops T S R (fun m=>p m∨m=i) b k→(S k).heap.get b=(S (i+1)).heap.get b:=by
   intro b k h1 h2 hk hbk hvw
   have hik:i+1≤k:=by
    rcases Nat.lt_or_ge i k with h | h
    ·exact h
    ·have:=F.size_mono h (Nat.le_of_lt hi);omega
   refine F.keep hik hk h2 fun m hm1 hm2 hwr=>?_
   have hm:m<ops.size:=by omega
   have hbf:=fresh_bef F hi hm h1 h2 (by omega) hdr (by omega) hwr
   rcases (hvw m hm hwr).2 hm2 with h | h
   ·exact hpi (bef_closed hbf hcl h)
   ·omega
  have hbl':∀ b,(S i).size≤b→b ∉ l:=fun b h1 h2=>by have:=hllt b h2;omega
  have unreach:∀ b x k,j b=some x→k≤ops.size→b<(S k).size→View ops T S R p b k→live (S k) b→¬ (b ∉ l∧∃ y,meet j jc b=some y) →
    ∀ d z,meet j jc d=some z→live (kill ⟨(S i).heap,(S i).size,(S i).size⟩ l) d→z.blk≠x.blk:=by
   intro b x k hb hk hbk hvw hlb hno d z hd hld e
   obtain ⟨h1,y,h2⟩:=meet_inv hd
   obtain ⟨h3,h4⟩:=hlv d hld
   have:=hI.inj d b z x i k h1 hb (Nat.le_of_lt hi) (hcdom d y h2) (hV d ⟨y,h2⟩ h3 (hcdom d y h2)).1 h4 hk hbk hvw hlb e
   subst this
   exact hno ⟨h3,z,hd⟩
  refine ⟨j',⟨hI.sub.trans hle,?_,?_,?_,?_,?_,by rw [put_defers];exact hI.defs,?_,Nat.le_trans hI.heap he.heap,?_,?_,hI.io.trans he.io⟩⟩
  ·intro b x hb
   rw [hj'] at hb
   split at hb
   ·rename_i h;exact ⟨(hs'.dom b x hb).2,.inr ⟨i,hi,.inr rfl,h⟩⟩
   ·obtain ⟨h1,h2⟩:=hI.dom b x hb
    refine ⟨Nat.lt_of_lt_of_le h1 he.heap,h2.imp id fun ⟨m,hm,h3,h4⟩=>⟨m,hm,.inl h3,h4⟩⟩
  ·intro m hm hpm b h1 h2
   rcases hpm with h | h
   ·obtain ⟨x,hx⟩:=hI.all m hm h b h1 h2
    exact ⟨x,hle b x hx⟩
   ·subst h
    obtain ⟨x,hx⟩:=he.all b h1 (by rw [hRs];exact h2)
    exact ⟨x,hle' b x hx⟩
  ·intro t k hk hvw u hu
   by_cases hd:oi.dst=some t
   ·rcases put_some hv with ⟨h1,_⟩ | ⟨t',h1,h2,h3⟩
    ·rw [hd] at h1;cases h1
    ·rw [hd] at h1;cases h1
     have hik:i<k:=(hvw i oi hoi hd).1 (.inr rfl)
     have hkeep:=F.tkeep (t:=t) (show i+1≤k from hik) hk fun m o hm1 hm2 ho hdo=>by
      rcases (hvw m o ho hdo).2 hm2 with h | h
      ·rcases hdr.apart i m oi o hoi ho (by omega) with h4 | ⟨h4,_⟩
       ·exact hpi (bef_closed h4 hcl h)
       ·exact (h4 t hd).2 hdo
      ·omega
     rw [hkeep] at hu
     have hTi:(T (i+1))=⟨(T i).n,(T i).t.set t v⟩:=h3
     rw [hTi] at hu
     change ((T i).t.set t v).get t=some u at hu
     rw [Tr.get_set,if_pos rfl] at hu
     cases hu
     have hts:t<a.tmps.size:=by
      rw [hI.tsz]
      refine Nat.lt_of_lt_of_le ?_ hT0
      rw [←F.tn (Nat.le_of_lt hi)]
      exact h2
     refine ⟨v',?_,hv'.mono hle'⟩
     rw [hd]
     show (a.tmps.setIfInBounds t v')[t]? = some v'
     simp [hts]
   ·obtain ⟨u',h1,h2⟩:=hI.tmps t k hk (fun m o ho hdo=>by
     have:=hvw m o ho hdo
     have hmi:m≠i:=fun e=>hd (by subst e;rw [hoi] at ho;cases ho;exact hdo)
     constructor
     ·intro h;exact this.1 (.inl h)
     ·intro h;rcases this.2 h with h | h
      ·exact h
      ·exact absurd h hmi) u hu
    refine ⟨u',?_,h2.mono hle⟩
    cases hd2:oi.dst with
    | none=>exact h1
    | some t' =>
     show (a.tmps.setIfInBounds t' v')[t]? = some u'
     rw [Array.getElem?_setIfInBounds_ne (fun e=>hd (by rw [hd2,e]))]
     exact h1
  ·intro b x k o hb hk hbk hvw hob
   rw [hj'] at hb
   split at hb
   ·rename_i h
    have hg:=young b k h.1 h.2 hk hbk hvw
    obtain ⟨o',h1,h2⟩:=hs'.objs b x o hb (by rw [hRg,if_neg (hbl' b h.1),←hg];exact hob)
    exact ⟨o',h1,h2.mono hle'⟩
   ·rename_i h
    rcases old b x k hb h hk hbk hvw with ⟨h1,h2,h3⟩ | ⟨h1,h2⟩
    ·obtain ⟨o',h4,h5⟩:=hs'.objs b x o (he.sub b x h1) (by rw [hRg,if_neg h2,←h3];exact hob)
     exact ⟨o',h4,h5.mono hle'⟩
    ·have hxw:=(hI.dom b x hb).1
     by_cases hdd:o = .dead
     ·subst hdd
      have:=he.heap
      exact ⟨w'.heap[x.blk]'(by omega),by rw [Array.getElem?_eq_getElem],trivial⟩
     ·obtain ⟨o',h3,h4⟩:=hI.mem b x k o hb hk hbk h2 hob
      refine ⟨o',?_,h4.mono hle⟩
      rw [he.fr x.blk hxw fun d z hd _ hld=>unreach b x k hb hk hbk h2 ⟨o,hob,hdd⟩ h1 d z hd hld]
      exact h3
  ·intro b c x y k k' hb hcb hk hbk hvb lb hk' hck hvc lc e
   -- each of both lies within reach,or not
   have side:∀ b x k,j' b=some x→k≤ops.size→b<(S k).size→View ops T S R (fun m=>p m∨m=i) b k→live (S k) b →
     (ji' b=some x∧live Rk b)∨(j b=some x∧View ops T S R p b k∧¬ (b ∉ l∧∃ y,meet j jc b=some y)):=by
    intro b x k hb hk hbk hvw ⟨o,hob,hdd⟩
    rw [hj'] at hb
    split at hb
    ·rename_i h
     exact .inl ⟨hb,o,by rw [hRg,if_neg (hbl' b h.1),←young b k h.1 h.2 hk hbk hvw];exact hob,hdd⟩
    ·rename_i h
     rcases old b x k hb h hk hbk hvw with ⟨h1,h2,h3⟩ | ⟨h1,h2⟩
     ·exact .inl ⟨he.sub b x h1,o,by rw [hRg,if_neg h2,←h3];exact hob,hdd⟩
     ·exact .inr ⟨hb,h2,h1⟩
   have cross:∀ b c x y k',ji' b=some x→live Rk b→j c=some y→k'≤ops.size→c<(S k').size→View ops T S R p c k'→live (S k') c→¬ (c ∉ l∧∃ y,meet j jc c=some y)→x.blk=y.blk→False:=by
    intro b c x y k' hb hlb hcb hk' hck hvc lc hno e
    cases hm:meet j jc b with
    | some z =>
     have:=he.sub b z hm
     rw [hb] at this;cases this
     have hbs:b<(S i).size:=by obtain ⟨_,y1,h1⟩:=meet_inv hm;exact hcdom b y1 h1
     exact unreach c y k' hcb hk' hck hvc lc hno b x hm (he.dead b hbs hlb) e
    | none =>
     obtain ⟨_,h1⟩:=he.new b x hb hm
     rcases h1 with h1 | ⟨d,z,h2,_,h3,h4⟩
     ·have:=(hI.dom c y hcb).1;omega
     ·exact unreach c y k' hcb hk' hck hvc lc hno d z h2 h3 (by rw [h4,e])
   rcases side b x k hb hk hbk hvb lb with ⟨h1,h2⟩ | ⟨h1,h2,h3⟩ <;> rcases side c y k' hcb hk' hck hvc lc with ⟨h4,h5⟩ | ⟨h4,h5,h6⟩
   ·exact hs'.inj b c x y h1 h4 h2 h5 e
   ·exact (cross b c x y k' h1 h2 h4 hk' hck h5 lc h6 e).elim
   ·exact (cross c b y x k h4 h5 h1 hk hbk h2 lb h3 e.symm).elim
   ·exact hI.inj b c x y k k' h1 h4 hk hbk h2 lb hk' hck h5 lc e
  ·cases hd2:oi.dst with
   | none=>exact hI.tsz
   | some t =>
    show (a.tmps.setIfInBounds t v').size=_
    rw [Array.size_setIfInBounds];exact hI.tsz
  ·intro c hc0 hf
   have h1:=hI.fr c hc0 hf
   rw [←h1]
   refine he.fr c (Nat.lt_of_lt_of_le hc0 hI.heap) fun d z hd hlo hld e=>?_
   obtain ⟨h2,y,h3⟩:=meet_inv hd
   have hlow2:(S ops.size).low≤d:=Nat.le_trans (F.low_le hi) (by rw [←hRl];exact hlo)
   cases hj0:j0 d with
   | some z' =>
    have:=hI.sub d z' hj0
    rw [h2] at this;cases this
    exact hf d z hj0 hlow2 (F.dead_mono (Nat.zero_le i) (Nat.le_of_lt hi) (hs0.dom d z hj0).1 (hlv d hld).2) e
   | none =>
    rcases hI.new d z h2 hj0 with h4 | ⟨c',y',h5,h6,h7,h8⟩
    ·omega
    ·exact hf c' y' h5 h6 h7 (by rw [h8,e])
  ·intro b x hb hn
   rw [hj'] at hb
   split at hb
   ·rename_i h
    have hmn:meet j jc b=none:=by
     cases hm:meet j jc b with
     | none=>rfl
     | some z=>have:=(meet_inv hm).1;rw [n1 b h.1 h.2] at this;cases this
    obtain ⟨_,h1⟩:=he.new b x hb hmn
    rcases h1 with h1 | ⟨d,z,h2,hlo,h3,h4⟩
    ·exact .inl (Nat.le_trans hI.heap h1)
    ·obtain ⟨h5,y,h6⟩:=meet_inv h2
     have hlow2:(S ops.size).low≤d:=Nat.le_trans (F.low_le hi) (by rw [←hRl];exact hlo)
     cases hj0:j0 d with
     | some z' =>
      have:=hI.sub d z' hj0
      rw [h5] at this;cases this
      exact .inr ⟨d,z,hj0,hlow2,F.dead_mono (Nat.zero_le i) (Nat.le_of_lt hi) (hs0.dom d z hj0).1 (hlv d h3).2,h4⟩
     | none =>
      rcases hI.new d z h5 hj0 with h7 | ⟨c',y',h8,h9,h10,h11⟩
      ·exact .inl (by omega)
      ·exact .inr ⟨c',y',h8,h9,h10,h11.trans h4⟩
   ·exact hI.new b x hb hn
 refine ⟨?_,fun K Q hKQ=>hW K Q fun v' w' ji' h1 h2 h3=>?_⟩
 ·obtain ⟨v',w',ji',h1,h2,h3⟩:=hex
  obtain ⟨j',h4⟩:=core v' w' ji' h1 h2 h3
  exact ⟨v',w',j',h4⟩
 ·obtain ⟨j',h4⟩:=core v' w' ji' h1 h2 h3
  exact hKQ v' w' j' h4
end
end Go.Proofs.YtbieflpgjmgaiaaGreat
/- A region that draws its order: the whole. -/
namespace Go.Proofs.YtbieflpgjmgaiaaGreat
section
variable {G:Good} {callF:CallF} {codeF:CodeF} {ops:Array Oper} {T:Nat→Fr} {S R:Nat→St} {D:Nat→Dr} {j0:Inj} {a0:Act} {w0:World}
theorem inv_ex (hG:GoodOK G) (hA:SoundCall G callF) (hC:SoundCode G codeF) (hc:(ops.toList.all fun o=>o.op.operands.toList.all constOk)=true) (hw:Way G callF codeF ops T S R D 0 ops.size) (F:Facts ops T S R) (hdr:Drawn ops)
  (hs0:Sim G j0 (S 0) w0) (hT0:TRel j0 (T 0) a0.tmps):∀ k,k≤ops.size→∀ p:Nat→Prop,Cl ops p→(∀ m,p m→m<k)→∃ a w j,Inv G ops T S R j0 a0 w0 p a w j:=by
 intro k
 induction k with
 | zero=>exact fun _ p _ hp=>⟨a0,w0,j0,inv_start (fun m _ h=>by have:=hp m h;omega) F hs0 hT0 rfl⟩
 | succ k ih =>
  intro hk p hcl hp
  by_cases hpk:p k
  ·have hlt:k<ops.size:=by omega
   have hcl':Cl ops (fun m=>p m∧m≠k):=fun i o ho hi e he hb=>by
    have:=hdr.edge i o e ho he hb
    have:=hp i hi.1
    exact ⟨hcl i o ho hi.1 e he hb,by omega⟩
   obtain ⟨a,w,j,hI⟩:=ih (by omega) (fun m=>p m∧m≠k) hcl' (fun m hm=>by have:=hp m hm.1;have:=hm.2;omega)
   obtain ⟨ac,wc,jc,hK⟩:=ih (by omega) (fun m=>Bef ops m k) (bef_cl hdr.edge k) (fun m hm=>bef_lt hdr.edge hm)
   obtain ⟨⟨v',w',j',h⟩,_⟩:=main_step hG hA hC hc hw F hdr hs0 hT0.1 (Array.getElem?_eq_getElem hlt) (p:=fun m=>p m∧m≠k) (fun h=>h.2 rfl) (fun m hm=>⟨bef_closed hm hcl hpk,by have:=bef_lt hdr.edge hm;omega⟩) hcl' hI hK none 0
   have e:(fun m=>(p m∧m≠k)∨m=k)=p:=by
    funext m
    apply propext
    constructor
    ·rintro (h | h)
     ·exact h.1
     ·rw [h];exact hpk
    ·intro h
     by_cases hm:m=k
     ·exact .inr hm
     ·exact .inl ⟨h,hm⟩
   rw [e] at h
   exact ⟨_,w',j',h⟩
  ·exact ih (by omega) p hcl fun m hm=>by
    have:=hp m hm
    by_cases e:m=k
    ·rw [e] at hm;exact absurd hm hpk
    ·omega
theorem inv_end (F:Facts ops T S R) (hs0:Sim G j0 (S 0) w0) (hT0:TRel j0 (T 0) a0.tmps) {p:Nat→Prop} (hp:∀ m,m<ops.size→p m) {a:Act} {w:World} {j:Inj} (hI:Inv G ops T S R j0 a0 w0 p a w j) :
  a.defers=a0.defers∧TRel j (T ops.size) a.tmps∧Sim G j (S ops.size) w∧Ext (S ops.size).low j0 (S 0) w0 j (S ops.size) w:=by
 have hv:∀ b,View ops T S R p b ops.size:=fun b m hm _=>⟨fun _=>hm,fun _=>hp m hm⟩
 have hsz:∀ b x,j b=some x→b<(S ops.size).size:=by
  intro b x hb
  have h0:=F.size_mono (Nat.zero_le _) (Nat.le_refl ops.size)
  rcases (hI.dom b x hb).2 with ⟨h1,_⟩ | ⟨m,hm,_,_,h1⟩
  ·omega
  ·have:=F.size_mono (show m+1≤ops.size from hm) (Nat.le_refl _);omega
 refine ⟨hI.defs,⟨?_,fun t v ht=>?_⟩,⟨fun b x hb=>⟨hsz b x hb,(hI.dom b x hb).1⟩,fun b x o hb ho=>hI.mem b x _ o hb (Nat.le_refl _) (hsz b x hb) (hv b) ho,fun b c x y hb hc lb lc e=>?_,inv_rom F hs0 hI hI.sub (Le.refl j) (fun d hd=>⟨_,Nat.le_refl _,hd⟩)⟩,?_⟩
 ·rw [F.tn (Nat.le_refl _),hI.tsz];exact hT0.1
 ·exact hI.tmps t _ (Nat.le_refl _) (fun m o ho _=>by
   have hm:m<ops.size:=(Array.getElem?_eq_some_iff.1 ho).1
   exact ⟨fun _=>hm,fun _=>hp m hm⟩) v ht
 ·exact hI.inj b c x y _ _ hb hc (Nat.le_refl _) (hsz b x hb) (hv b) lb (Nat.le_refl _) (hsz c y hc) (hv c) lc e
 ·refine ⟨hI.sub,F.size_mono (Nat.zero_le _) (Nat.le_refl _),hI.heap,fun b hb hl=>F.dead_mono (Nat.zero_le _) (Nat.le_refl _) hb hl,fun b hb hlo=>?_,hI.fr,fun b x hb hn=>⟨?_,hI.new b x hb hn⟩,?_,hI.io⟩
  ·refine F.keep (Nat.zero_le _) (Nat.le_refl _) hb fun m _ hm hwr=>?_
   have:=F.low_le hm
   have:=hwr.2.1
   omega
  ·rcases (hI.dom b x hb).2 with ⟨_,h1⟩ | ⟨m,hm,_,h1,_⟩
   ·rw [h1] at hn;cases hn
   ·have:=F.size_mono (Nat.zero_le m) (Nat.le_of_lt hm);omega
  ·intro b h1 h2
   have:∀ k,k≤ops.size→b<(S k).size→∃ m,m<k∧(S m).size≤b∧b<(S (m+1)).size:=by
    intro k
    induction k with
    | zero=>intro _ h;omega
    | succ k ih =>
     intro hk hb
     by_cases h3:b<(S k).size
     ·obtain ⟨m,h4,h5⟩:=ih (by omega) h3
      exact ⟨m,by omega,h5⟩
     ·exact ⟨k,by omega,by omega,hb⟩
   obtain ⟨m,hm,h3,h4⟩:=this ops.size (Nat.le_refl _) h2
   exact hI.all m hm (hp m hm) b h3 h4
theorem mem_ready {listed:Array Bool} {i:Nat} (h:i∈Region.ready .any ops listed):∃ o,ops[i]? = some o∧listed[i]? = some false∧∀ e∈o.after.toList,Region.binds .any e=true→listed[e.on]? = some true:=by
 unfold Region.ready at h
 rw [List.mem_filter] at h
 obtain ⟨h1,h2⟩:=h
 simp only [Bool.and_eq_true,Bool.not_eq_true'] at h2
 have hi:i<ops.size:=by simpa using h1
 refine ⟨ops[i],Array.getElem?_eq_getElem hi,?_,fun e he hb=>?_⟩
 ·have h3:=h2.1
  rw [Array.getD_eq_getD_getElem?] at h3
  cases hl:listed[i]? with
  | none=>rw [hl] at h3;cases h3
  | some b=>rw [hl] at h3;cases b <;> first | rfl | cases h3
 ·have h3:=h2.2
  rw [Array.getElem?_eq_getElem hi] at h3
  simp only [Option.map_some,Option.getD_some] at h3
  have h4:=Array.all_eq_true'.1 h3 e (by simpa using he)
  rw [hb] at h4
  simp only [Bool.not_true,Bool.false_or] at h4
  rw [Array.getD_eq_getD_getElem?] at h4
  cases hl:listed[e.on]? with
  | none=>rw [hl] at h4;cases h4
  | some b=>rw [hl] at h4;cases b <;> first | rfl | cases h4
theorem ready_of {listed:Array Bool} {i:Nat} {o:Oper} (ho:ops[i]? = some o) (hl:listed[i]? = some false) (h:∀ e∈o.after.toList,Region.binds .any e=true→listed[e.on]? = some true):i∈Region.ready .any ops listed:=by
 unfold Region.ready
 have hi:i<ops.size:=(Array.getElem?_eq_some_iff.1 ho).1
 rw [List.mem_filter]
 refine ⟨by simpa using hi,?_⟩
 simp only [Bool.and_eq_true,Bool.not_eq_true',ho,Option.map_some,Option.getD_some,Array.getD_eq_getD_getElem?,hl]
 refine ⟨trivial,Array.all_eq_true'.2 fun e he=>?_⟩
 cases hb:Region.binds .any e with
 | false=>rfl
 | true=>rw [h e (by simpa using he) hb];rfl
theorem region_draw (hG:GoodOK G) (hA:SoundCall G callF) (hC:SoundCode G codeF) {id:Nat} {ops:Array Oper} {Tr0:Fr} {S0:St} {r:Fr×St} (h0:evDraw G.E callF codeF ops (befL ops.toList []) ops.toList 0 ⟨S0.size,[],[],[]⟩ Tr0 S0=some r)
  (hc:(ops.toList.all fun o=>o.op.operands.toList.all constOk)=true) (hdr:Drawn ops) (rd':Option Nat) (n:Nat) {j:Inj} {a:Act} {w:World} (hs:Sim G j S0 w) (hT:TRel j Tr0 a.tmps) :
  r.2.low≤S0.low∧∀ Q:Exit→Act→World→Prop,(∀ a' w' j',a'.defers=a.defers→TRel j' r.1 a'.tmps→Sim G j' r.2 w'→Ext r.2.low j S0 w j' r.2 w'→Q .normal a' w')→(Code.region id ops true).wpIn (fenceOf rd') n G.P Q a w:=by
 obtain ⟨T,S,R,D,e1,e2,e3,hw,hr⟩:=way_of ops.toList 0 _ _ _ _ h0 (fun k=>by simp)
 rw [Nat.zero_add,Array.length_toList] at hw hr
 subst e1;subst e2
 have F:=facts_of hG hA hC hc hw e3 hs hT
 rw [hr]
 refine ⟨F.low_mono (Nat.zero_le _) (Nat.le_refl _),fun Q hQ=>wpIn_region_any hG.mixed ?_⟩
 have any:∀ (fuel:Nat) (listed:Array Bool) (a':Act) (w':World) (j':Inj),listed.size=ops.size→listed.toList.count false≤fuel→Cl ops (fun m=>listed[m]? = some true) →
   Inv G ops T S R j a w (fun m=>listed[m]? = some true) a' w' j'→wpAnyIn (fenceOf rd') n G.P .any ops Q fuel listed a' w':=by
  intro fuel
  induction fuel with
  | zero =>
   intro listed a' w' j' hsz hcnt hcl hI
   have hall:∀ m,m<ops.size→listed[m]? = some true:=by
    intro m hm
    have hlt:m<listed.size:=by omega
    rw [Array.getElem?_eq_getElem hlt]
    cases hb:listed[m] with
    | true=>rfl
    | false =>
     have:0<listed.toList.count false:=List.count_pos_iff.2 (by rw [←hb];simp)
     omega
   have hnil:Region.ready .any ops listed=[]:=by
    cases hrd:Region.ready .any ops listed with
    | nil=>rfl
    | cons i l =>
     obtain ⟨o,ho,hl,_⟩:=mem_ready (show i∈Region.ready .any ops listed by rw [hrd];simp)
     rw [hall i (Array.getElem?_eq_some_iff.1 ho).1] at hl;cases hl
   refine ⟨hnil,?_⟩
   obtain ⟨h1,h2,h3,h4⟩:=inv_end F hs hT hall hI
   exact hQ a' w' j' h1 h2 h3 h4
  | succ fuel ih =>
   intro listed a' w' j' hsz hcnt hcl hI
   refine ⟨fun hnil=>?_,fun i hi=>?_⟩
   ·have hall:∀ m,m<ops.size→listed[m]? = some true:=by
     intro m
     induction m using Nat.strongRecOn with
     | _ m ihm =>
      intro hm
      have hlt:m<listed.size:=by omega
      have hg:=Array.getElem?_eq_getElem hlt
      cases hb:listed[m] with
      | true=>rw [hg,hb]
      | false =>
       have:m∈Region.ready .any ops listed:=ready_of (Array.getElem?_eq_getElem hm) (by rw [hg,hb]) fun e he hbd=>by
        have:=hdr.edge m _ e (Array.getElem?_eq_getElem hm) he hbd
        exact ihm e.on this (by omega)
       rw [hnil] at this;cases this
    obtain ⟨h1,h2,h3,h4⟩:=inv_end F hs hT hall hI
    exact hQ a' w' j' h1 h2 h3 h4
   ·obtain ⟨o,ho,hl,he⟩:=mem_ready hi
    have hilt:i<ops.size:=(Array.getElem?_eq_some_iff.1 ho).1
    have hil:i<listed.size:=by omega
    obtain ⟨ac,wc,jc,hK⟩:=inv_ex hG hA hC hc hw F hdr hs hT i (Nat.le_of_lt hilt) (fun m=>Bef ops m i) (bef_cl hdr.edge i) (fun m hm=>bef_lt hdr.edge hm)
    have hpB:∀ m,Bef ops m i→listed[m]? = some true:=by
     have hcl':Cl ops (fun m=>listed[m]? = some true∨m=i):=by
      intro k o' ho' hk e hee hb
      rcases hk with hk | hk
      ·exact .inl (hcl k o' ho' hk e hee hb)
      ·subst hk;rw [ho] at ho';cases ho';exact .inl (he e hee hb)
     intro m hm
     rcases bef_closed hm hcl' (.inr rfl) with h | h
     ·exact h
     ·have:=bef_lt hdr.edge hm;omega
    refine (main_step hG hA hC hc hw F hdr hs hT.1 ho (p:=fun m=>listed[m]? = some true) (fun h=>by rw [hl] at h;cases h) hpB hcl hI hK rd' n).2 _ _ fun v' w2 j2 h=>?_
    have e:(fun m=>listed[m]? = some true∨m=i)=(fun m=>(listed.setIfInBounds i true)[m]? = some true):=by
     funext m
     apply propext
     rw [Array.getElem?_setIfInBounds]
     by_cases hm:i=m
     ·subst hm;simp [hil]
     ·rw [if_neg hm]
      exact ⟨fun h=>h.resolve_right (fun e=>hm e.symm),.inl⟩
    rw [e] at h
    refine ih _ _ _ _ (by simpa using hsz) ?_ ?_ h
    ·have hgl:listed.toList[i]'(by simpa using hil)=false:=by
      have:=hl
      rw [Array.getElem?_eq_getElem hil] at this
      simpa using this
     rw [Array.toList_setIfInBounds,List.count_set (by simpa using hil),hgl]
     show List.count false listed.toList - (if (false==false)=true then 1 else 0)+(if (true==false)=true then 1 else 0)≤fuel
     have e1:((false==false)=true)=True:=by simp
     have e2:((true==false)=true)=False:=by simp
     simp only [e1,e2,if_true,if_false]
     omega
    ·rw [←e]
     intro k o' ho' hk e2 hee hb
     rcases hk with hk | hk
     ·exact .inl (hcl k o' ho' hk e2 hee hb)
     ·subst hk;rw [ho] at ho';cases ho';exact .inl (he e2 hee hb)
 have hrep:∀ m,(Array.replicate ops.size false)[m]? ≠ some true:=fun m h=>by
  rw [Array.getElem?_replicate] at h
  split at h <;> cases h
 refine any ops.size (Array.replicate ops.size false) a _ j (by simp) ?_ (fun i o ho hi=>absurd hi (hrep i)) (inv_start (fun m _=>hrep m) F hs hT rfl)
 simp
end
end Go.Proofs.YtbieflpgjmgaiaaGreat
/- The evaluator is sound: code, calls, the run. -/
namespace Go.Proofs.YtbieflpgjmgaiaaGreat
section
variable {G:Good} {callF:CallF} {codeF:CodeF}
def CodeW (F:Fence) (n:Nat) (P:Program) (m:Nat) (c:Code) (Q:Exit→Act→World→Prop) (a:Act) (w:World):Prop:=match c with
 | .loop b=>b.roundsIn F n P Q m a w
 | c=>c.wpIn F n P Q a w
theorem CodeW.wp {F:Fence} {n:Nat} {P:Program} {m:Nat} {c:Code} {Q:Exit→Act→World→Prop} {a:Act} {w:World} (h:CodeW F n P m c Q a w):c.wpIn F n P Q a w:=by
 cases c with
 | loop b=>exact wpIn_loop_rounds m h
 | _=>exact h
def SoundCodeR (G:Good) (codeF:CodeF):Prop:=∀ c rd T S r,codeF c rd T S=some r→chkC c=true→∃ m,
 ∀ n base j a w rd',RdRel j rd rd'→Sim G j S w→TRel j T a.tmps→base≤w.heap.size→Defs base j w a.defers→r.S.low≤S.low∧CodeW (fenceOf rd') n G.P m c (CPost G base j S w r) a w
theorem SoundCodeR.sound (h:SoundCodeR G codeF):SoundCode G codeF:=fun c rd T S r hr hc n base j a w rd' h1 h2 h3 h4 h5 =>
 let ⟨_,hm⟩:=h c rd T S r hr hc
 let ⟨h6,h7⟩:=hm n base j a w rd' h1 h2 h3 h4 h5
 ⟨h6,h7.wp⟩
theorem CPost.after {base:Nat} {j j1:Inj} {S:St} {w w1:World} {r1 r:Res} (hd:∀ b x,j b=some x→b<S.size) (h1:Ext r1.S.low j S w j1 r1.S w1) (hl:r.S.low≤r1.S.low) {e:Exit} {a':Act} {w':World} (h:CPost G base j1 r1.S w1 r e a' w'):CPost G base j S w r e a' w':=by
 obtain ⟨he,j2,h2,h3,h4,h5⟩:=h
 exact ⟨he,j2,h2,h1.trans hd h3 hl,h4,h5⟩
theorem CPost.same {base:Nat} {j:Inj} {S:St} {w:World} {r:Res} {e:LExit} {T:Fr} (hr:r=⟨e,T,S⟩) {a:Act} (hs:Sim G j S w) (hT:TRel j T a.tmps) (hD:Defs base j w a.defers):CPost G base j S w r (exOf e) a w:=by
 subst hr
 exact ⟨rfl,j,hs,Ext.refl _ _ _ _,hT,hD⟩
theorem region_code (hG:GoodOK G) (hA:SoundCall G callF) (hC:SoundCode G codeF) {id:Nat} {ops:Array Oper} {draw:Bool} {T:Fr} {S:St} {r:Res} (h0:evRegion G.E callF codeF ops draw T S=some r) (hc:chkC (.region id ops draw)=true)
  (n base:Nat) {j:Inj} {a:Act} {w:World} (rd':Option Nat) (hs:Sim G j S w) (hT:TRel j T a.tmps) (hD:Defs base j w a.defers):r.S.low≤S.low∧(Code.region id ops draw).wpIn (fenceOf rd') n G.P (CPost G base j S w r) a w:=by
 obtain ⟨q,hq,h1⟩:=ob_some h0
 have hr:r=⟨.normal,q.1,q.2⟩:=by cases h1;rfl
 simp only [chkC,Bool.and_eq_true,Bool.or_eq_true,Bool.not_eq_true'] at hc
 subst hr
 cases draw with
 | false =>
  obtain ⟨h2,h3⟩:=region_seq hG hA hC (id:=id) hq hc.1 rd' n hs hT
  exact ⟨h2,h3 _ fun a' w' j' h4 h5 h6 h7=>⟨rfl,j',h6,h7,h5,by rw [h4];exact hD.ext h7⟩⟩
 | true =>
  obtain ⟨h2,h3⟩:=region_draw hG hA hC (id:=id) hq hc.1 (drawn_of_chk (hc.2.resolve_left (by simp))) rd' n hs hT
  exact ⟨h2,h3 _ fun a' w' j' h4 h5 h6 h7=>⟨rfl,j',h6,h7,h5,by rw [h4];exact hD.ext h7⟩⟩
theorem range_code (hA:SoundCall G callF) {f:Operand} {ps:Array Tmp} {asg body:Code} {rd:Option Nat} {T:Fr} {S:St} {r:Res} (h0:evRange callF f ps.toList asg body rd T S=some r) (hc:chkC (.rangeFunc f ps asg body)=true)
  (n base:Nat) {j:Inj} {a:Act} {w:World} {rd':Option Nat} (hrd:RdRel j rd rd') (hs:Sim G j S w) (hT:TRel j T a.tmps) (hb:base≤w.heap.size) (hD:Defs base j w a.defers) :
  r.S.low≤S.low∧(Code.rangeFunc f ps asg body).wpIn (fenceOf rd') n G.P (CPost G base j S w r) a w:=by
 obtain ⟨hround,h1⟩:=gd_some h0
 obtain ⟨g,hg,h2⟩:=ob_some h1
 obtain ⟨q,hq,h3⟩:=ob_some h2
 obtain ⟨u,hu,h4⟩:=ob_some h3
 obtain ⟨hbusy,h5⟩:=gd_some h4
 obtain ⟨ex,hex,h6⟩:=ob_some h5
 have hr:r=⟨ex,T,q.2.put S.size (.loop .exhausted u.2.1 u.2.2.1 u.2.2.2.1 u.2.2.2.2.1 u.2.2.2.2.2)⟩:=by cases h6;rfl
 clear h0 h1 h2 h3 h4 h5 h6
 subst hr
 obtain ⟨fv,hfv,hg'⟩:=ob_some hg
 simp only [chkC,Bool.and_eq_true] at hc
 have hfr:=hT.ev hc.1 hfv
 obtain ⟨⟨fnr,hf1,hf2,hf3⟩,hcall⟩:=hA _ _ _ _ _ hq
 -- the loop's record,laid into whatever memory
 have lay:∀ (fn:FuncId) (wa:World) (df:Nat),Sim G j S wa→∃ x,x.blk=wa.heap.size∧Sim G (j.ext S.size x) (S.new (.loop .ready none T ps.toList asg body)) (wa.alloc (.loop { state:=.ready,pending:=none,fn:=fn,tmps:=a.tmps,params:=ps,assign:=asg,body:=body,defers:=df })) ∧
   ∀ lo,Ext lo j S wa (j.ext S.size x) (S.new (.loop .ready none T ps.toList asg body)) (wa.alloc (.loop { state:=.ready,pending:=none,fn:=fn,tmps:=a.tmps,params:=ps,assign:=asg,body:=body,defers:=df })):=by
  intro fn wa df hsa
  obtain ⟨h1,h2⟩:=hsa.new ⟨wa.heap.size,0,0,0⟩ (o:=.loop .ready none T ps.toList asg body) (o':=.loop { state:=.ready,pending:=none,fn:=fn,tmps:=a.tmps,params:=ps,assign:=asg,body:=body,defers:=df }) rfl
   ⟨_,rfl,rfl,rfl,rfl,rfl,rfl,hT.mono (ext_le (hsa.fresh (Nat.le_refl _))),hc.2.1,hc.2.2⟩
  exact ⟨_,rfl,h1,h2⟩
 -- the call,and what is asked behind it
 have go:∀ (w1:World) (x:JB) (mark:List Deferred),Sim G (j.ext S.size x) (S.new (.loop .ready none T ps.toList asg body)) w1→(∀ lo,Ext lo j S w (j.ext S.size x) (S.new (.loop .ready none T ps.toList asg body)) w1) →
   Defs base (j.ext S.size x) w1 (mark++a.defers) →
   (q.2.put S.size (.loop .exhausted u.2.1 u.2.2.1 u.2.2.2.1 u.2.2.2.2.1 u.2.2.2.2.2)).low≤S.low ∧
   ∃ d f' args,(resolve a.eval (rangeCall f x.blk) 0).run G.P w1 = .ok d w1∧(invoke d.target d.args).run G.P w1 = .ok (.enter f' args) w1 ∧
    CallsIn (fenceOf rd') (n - 1) G.P f' args w1 (rangePost (fenceOf rd') n G.P x.blk (CPost G base j S w ⟨ex,T,q.2.put S.size (.loop .exhausted u.2.1 u.2.2.1 u.2.2.2.1 u.2.2.2.2.1 u.2.2.2.2.2)⟩) { a with defers:=mark++a.defers }):=by
  intro w1 x mark hs1 he1 hD1
  have hx:j.ext S.size x S.size=some x:=ext_self _ _ _
  have hj:=(he1 0).sub
  cases hv:fv <;> rw [hv] at hg' hfr <;> first | (cases hg';done) | skip
  rename_i fn first cap
  cases fn <;> first | (cases hg';done) | skip
  rename_i gf
  cases hg'
  generalize hy:a.eval f=y at hfr
  cases hfr with
  | func hfn h1 h2 =>
   rename_i fn' first' cap'
   cases hfn
   have hargs:VsRel (j.ext S.size x) (first.toList++([.func (.yield S.size) #[] #[]]++cap.toList)) ((first' ++ #[Value.func (.yield x.blk) #[] #[]])++cap').toList:=by
    simp only [Array.toList_append,List.append_assoc]
    exact (h1.mono hj).append (VsRel.append (.cons (.func (.yield hx) .nil .nil) .nil) (h2.mono hj))
   obtain ⟨hlow,hcl⟩:=hcall (j.ext S.size x) ((first' ++ #[Value.func (.yield x.blk) #[] #[]])++cap') w1 hs1 hargs
   have hl2:(q.2.put S.size (.loop .exhausted u.2.1 u.2.2.1 u.2.2.2.1 u.2.2.2.2.1 u.2.2.2.2.2)).low≤q.2.low:=Nat.min_le_right _ _
   refine ⟨Nat.le_trans hl2 hlow,{ target:=.fn (.func gf) cap',args:=first' ++ #[Value.func (.yield x.blk) #[] #[]] },gf,(first' ++ #[Value.func (.yield x.blk) #[] #[]])++cap',?_,run_callFunc hf1 hf2 hf3 _ _,fenceOf_calls rd' (Calls.mono hcl ?_)⟩
   ·simp only [resolve,rangeCall,hy,Deferred.ofValue]
    have em:Array.map a.eval #[Operand.const (Value.func (Fn.yield x.blk) #[] #[])] = #[Value.func (Fn.yield x.blk) #[] #[]]:=by simp [Act.eval]
    rw [em]
    rfl
   ·rintro e w2 ⟨v',j2,rfl,hv2,hs2,he2⟩
    have hx2:=he2.sub _ _ hx
    obtain ⟨L,hL,hst,hpd,hps,hasg,hbody,hTL,hc1,hc2,hget⟩:=loop_obj hs2 hx2 hu
    obtain ⟨hs3,he3⟩:=put_loop hs2 hx2 hu hL .exhausted u.2.1
    have he3':=he3 _ (Nat.min_le_left S.size q.2.low)
    have hLp:({ L with state:=.exhausted,pending:=u.2.1 }:Loop)={ L with state:=.exhausted }:=by rw [←hpd]
    rw [hLp] at hs3 he3'
    have hend:(Instr.endLoop x.blk).run G.P w2 = .ok u.2.1 (w2.putObj x.blk (.loop { L with state:=.exhausted })):=by
     have hnb:(L.state == .busy)=false:=by
      rw [hst]
      cases hq1:u.1 <;> rw [hq1] at hbusy <;> first | rfl | cases hbusy
     simp only [Instr.endLoop,Sem.run_bind,run_getLoop hL,Result.andThen_ok,hnb,Bool.false_eq_true,if_false,run_setLoop _ hL,Sem.run_pure,hpd]
    have hall:Ext (q.2.put S.size (.loop .exhausted u.2.1 u.2.2.1 u.2.2.2.1 u.2.2.2.2.1 u.2.2.2.2.2)).low j S w j2 (q.2.put S.size (.loop .exhausted u.2.1 u.2.2.1 u.2.2.2.1 u.2.2.2.2.1 u.2.2.2.2.2)) (w2.putObj x.blk (.loop { L with state:=.exhausted })) :=
     ((he1 q.2.low).trans (fun b y hb=>(hs.dom b y hb).1) he2 (Nat.le_refl _)).trans (fun b y hb=>(hs.dom b y hb).1) he3' hl2
    have hT2:TRel j2 T a.tmps:=hT.mono (hj.trans he2.sub)
    have hD2:=(hD1.ext he2).ext he3'
    have post:CPost G base j S w ⟨ex,T,q.2.put S.size (.loop .exhausted u.2.1 u.2.2.1 u.2.2.2.1 u.2.2.2.2.1 u.2.2.2.2.2)⟩ (exOf ex) { a with defers:=mark++a.defers } (w2.putObj x.blk (.loop { L with state:=.exhausted })):=⟨rfl,j2,hs3,hall,hT2,hD2⟩
    refine ⟨u.2.1,_,hend,?_⟩
    cases hp:u.2.1 with
    | none =>
     rw [hp] at hex
     cases hex
     rw [hp] at post
     exact post
    | some c =>
     rw [hp] at hex post
     cases c <;> first | (cases hex;done) | skip
     ·cases hex;exact wpIn_exit post
     ·cases hex;exact wpIn_ret post
 cases rd with
 | none =>
  cases rd' with
  | some l=>exact hrd.elim
  | none =>
   have hwd:(w.alloc (.deferred (some []))).heap.size=w.heap.size+1:=Array.size_push _
   have hsd:Sim G j S (w.alloc (.deferred (some []))):=by
    refine ⟨fun b x hb=>⟨(hs.dom b x hb).1,by rw [hwd];have:=(hs.dom b x hb).2;omega⟩,fun b x o hb ho=>?_,hs.inj,hs.rom.world (fun b x hb=>by
     have:=(hs.dom b x hb).2
     show (w.heap.push _)[x.blk]? = _
     rw [Array.getElem?_push,if_neg (by omega)]) (fun _ h=>h)⟩
    obtain ⟨o',h1,h2⟩:=hs.objs b x o hb ho
    have:=(hs.dom b x hb).2
    refine ⟨o',?_,h2⟩
    show (w.heap.push _)[x.blk]? = _
    rw [Array.getElem?_push,if_neg (by omega)];exact h1
   have hed:∀ lo,Ext lo j S w j S (w.alloc (.deferred (some []))):=fun lo=>⟨Le.refl _,Nat.le_refl _,by rw [hwd];omega,fun _ _ h=>h,fun _ _ _=>rfl,fun c hc _=>by
    show (w.heap.push _)[c]? = _
    rw [Array.getElem?_push,if_neg (by omega)],(fun b x h h'=>by rw [h] at h';cases h'),(fun b h1 h2=>by omega),⟨rfl,rfl,rfl⟩⟩
   have hone:∀ fn,∃ x,x.blk=w.heap.size+1∧Sim G (j.ext S.size x) (S.new (.loop .ready none T ps.toList asg body)) ((w.alloc (.deferred (some []))).alloc (.loop { state:=.ready,pending:=none,fn:=fn,tmps:=a.tmps,params:=ps,assign:=asg,body:=body,defers:=w.heap.size })) ∧
     (∀ lo,Ext lo j S w (j.ext S.size x) (S.new (.loop .ready none T ps.toList asg body)) ((w.alloc (.deferred (some []))).alloc (.loop { state:=.ready,pending:=none,fn:=fn,tmps:=a.tmps,params:=ps,assign:=asg,body:=body,defers:=w.heap.size }))) ∧
     Defs base (j.ext S.size x) ((w.alloc (.deferred (some []))).alloc (.loop { state:=.ready,pending:=none,fn:=fn,tmps:=a.tmps,params:=ps,assign:=asg,body:=body,defers:=w.heap.size })) ([{ target:=.collected w.heap.size,args:=#[] }]++a.defers):=by
    intro fn
    obtain ⟨x,h1,h2,h3⟩:=lay fn (w.alloc (.deferred (some []))) w.heap.size hsd
    have h4:∀ lo,Ext lo j S w (j.ext S.size x) (S.new (.loop .ready none T ps.toList asg body)) ((w.alloc (.deferred (some []))).alloc (.loop { state:=.ready,pending:=none,fn:=fn,tmps:=a.tmps,params:=ps,assign:=asg,body:=body,defers:=w.heap.size })) :=
     fun lo=>(hed lo).trans (fun b y hb=>(hs.dom b y hb).1) (h3 lo) (Nat.le_refl _)
    refine ⟨x,by rw [h1,hwd],h2,h4,?_,hD.ext (h4 0)⟩
    refine ⟨w.heap.size,rfl,hb,?_,?_,?_⟩
    ·show ((w.heap.push _).push _)[w.heap.size]? = _
     rw [Array.getElem?_push,if_neg (by simp),Array.getElem?_push,if_pos rfl]
    ·intro b y hby e
     simp only [Inj.ext] at hby
     split at hby
     ·cases hby;rw [h1,hwd] at e;omega
     ·have:=(hs.dom b y hby).2;omega
    ·intro d' hd' e
     have:∀ ds,Defs base j w ds→∀ d∈ds,∃ r,d={ target:=.collected r,args:=#[] }∧r<w.heap.size:=by
      intro ds
      induction ds with
      | nil=>intro _ d hd;cases hd
      | cons d0 ds ih =>
       intro h d hd
       rcases List.mem_cons.1 hd with rfl | hd
       ·obtain ⟨r,h1,_,h2,_⟩:=h.1
        exact ⟨r,h1,(Array.getElem?_eq_some_iff.1 h2).1⟩
       ·exact ih h.2 d hd
     obtain ⟨r,h5,h6⟩:=this _ hD d' hd'
     rw [e] at h5
     injection h5 with h5
     injection h5 with h5
     omega
   refine ⟨?_,wpIn_rangeFunc fun fn _=>?_⟩
   ·obtain ⟨x,_,h1,h2,h3⟩:=hone 0
    exact (go _ x _ h1 h2 h3).1
   ·obtain ⟨x,hx,h1,h2,h3⟩:=hone fn
    obtain ⟨_,d,f',args,h4,h5,h6⟩:=go _ x _ h1 h2 h3
    rw [hx] at h4 h6
    refine ⟨w.heap.size+1,[{ target:=.collected w.heap.size,args:=#[] }],_,d,_,f',args,_,?_,h4,fun f' _=>fenceOf_fn _ f',h5,(fun h=>by rw [fenceOf_depth] at h;cases h),h6⟩
    rw [fenceOf_round]
    simp only [Instr.enterLoop,Sem.run_bind,run_newObj,Result.andThen_ok,Sem.run_pure,World.alloc_eq,hwd]
 | some lb =>
  cases rd' with
  | none=>exact hrd.elim
  | some l =>
   obtain ⟨y,hy,hyl⟩:=hrd
   have hlo:∃ L,w.heap[l]? = some (.loop L):=by
    change (Option.rec false (fun _=>true) (ob (S.heap.get lb) loopO):Bool)=true at hround
    cases hq0:ob (S.heap.get lb) loopO with
    | none=>rw [hq0] at hround;cases hround
    | some q0 =>
     obtain ⟨L,hL,_⟩:=loop_obj hs hy hq0
     exact ⟨L,by rw [←hyl];exact hL⟩
   obtain ⟨L0,hL0⟩:=hlo
   refine ⟨?_,wpIn_rangeFunc fun fn _=>?_⟩
   ·obtain ⟨x,_,h1,h2⟩:=lay 0 w L0.defers hs
    exact (go _ x [] h1 h2 (hD.ext (h2 0))).1
   ·obtain ⟨x,hx,h1,h2⟩:=lay fn w L0.defers hs
    obtain ⟨_,d,f',args,h4,h5,h6⟩:=go _ x [] h1 h2 (hD.ext (h2 0))
    rw [hx] at h4 h6
    refine ⟨w.heap.size,[],_,d,_,f',args,_,?_,h4,fun f' _=>fenceOf_fn _ f',h5,(fun h=>by rw [fenceOf_depth] at h;cases h),h6⟩
    rw [fenceOf_round]
    simp only [Instr.enterLoop,Sem.run_bind,run_getLoop hL0,run_newObj,Result.andThen_ok,Sem.run_pure,World.alloc_eq]
theorem cond_operand {T:Fr} {c:Operand} {t:Bool} {j:Inj} {a:Act} (hT:TRel j T a.tmps) (hc:constOk c=true) (h:ob (T.ev c) boolOf=some t):a.eval c = .bool t:=by
 obtain ⟨v,hv,hb⟩:=ob_some h
 have:=boolOf_some hb;subst this
 exact (hT.ev hc hv).bool_inv
theorem code_sound (hG:GoodOK G) (hA:SoundCall G callF) (hC:SoundCodeR G codeF):SoundCodeR G (evCode G.E callF codeF):=by
 intro c
 induction c with
 | skip =>
  intro rd T S r h0 _
  cases h0
  exact ⟨0,fun n base j a w rd' _ hs hT _ hD=>⟨Nat.le_refl _,wpIn_skip (CPost.same rfl hs hT hD)⟩⟩
 | label l =>
  intro rd T S r h0 _
  cases h0
  exact ⟨0,fun n base j a w rd' _ hs hT _ hD=>⟨Nat.le_refl _,wpIn_label (CPost.same rfl hs hT hD)⟩⟩
 | exit id =>
  intro rd T S r h0 _
  cases h0
  exact ⟨0,fun n base j a w rd' _ hs hT _ hD=>⟨Nat.le_refl _,wpIn_exit (CPost.same (e:=.exit id) rfl hs hT hD)⟩⟩
 | ret =>
  intro rd T S r h0 _
  cases h0
  exact ⟨0,fun n base j a w rd' _ hs hT _ hD=>⟨Nat.le_refl _,wpIn_ret (CPost.same (e:=.ret) rfl hs hT hD)⟩⟩
 | scope b _=>intro rd T S r h0 _;cases h0
 | goto l=>intro rd T S r h0 _;cases h0
 | refuse why=>intro rd T S r h0 _;cases h0
 | region id ops draw =>
  intro rd T S r h0 hc
  exact ⟨0,fun n base j a w rd' _ hs hT _ hD=>region_code hG hA hC.sound h0 hc n base rd' hs hT hD⟩
 | rangeFunc f ps asg body _ _ =>
  intro rd T S r h0 hc
  exact ⟨0,fun n base j a w rd' hrd hs hT hb hD=>range_code hA h0 hc n base hrd hs hT hb hD⟩
 | cond c x y ihx ihy =>
  intro rd T S r h0 hc
  obtain ⟨t,ht,h1⟩:=ob_some h0
  simp only [chkC,Bool.and_eq_true] at hc
  cases t with
  | true =>
   obtain ⟨m,hm⟩:=ihx rd T S r h1 hc.2.1
   refine ⟨0,fun n base j a w rd' hrd hs hT hb hD=>?_⟩
   obtain ⟨h2,h3⟩:=hm n base j a w rd' hrd hs hT hb hD
   exact ⟨h2,wpIn_cond_true (cond_operand hT hc.1 ht) h3.wp⟩
  | false =>
   obtain ⟨m,hm⟩:=ihy rd T S r h1 hc.2.2
   refine ⟨0,fun n base j a w rd' hrd hs hT hb hD=>?_⟩
   obtain ⟨h2,h3⟩:=hm n base j a w rd' hrd hs hT hb hD
   exact ⟨h2,wpIn_cond_false (cond_operand hT hc.1 ht) h3.wp⟩
 | seq x y ihx ihy =>
  intro rd T S r h0 hc
  obtain ⟨q,hq,h1⟩:=ob_some h0
  simp only [chkC,Bool.and_eq_true] at hc
  obtain ⟨m,hm⟩:=ihx rd T S q hq hc.1
  cases hex:q.ex with
  | normal =>
   unfold onNormal at h1
   rw [hex] at h1
   obtain ⟨m2,hm2⟩:=ihy rd q.T q.S r h1 hc.2
   refine ⟨0,fun n base j a w rd' hrd hs hT hb hD=>?_⟩
   obtain ⟨h2,h3⟩:=hm n base j a w rd' hrd hs hT hb hD
   have hdom:=fun b x (hb:j b=some x)=>(hs.dom b x hb).1
   have hlow:r.S.low≤q.S.low:=by
    obtain ⟨e,a1,w1,_,j1,h4,h5,h6,h7⟩:=wpIn_some h3.wp
    exact (hm2 n base j1 a1 w1 rd' (hrd.mono h5.sub) h4 h6 (Nat.le_trans hb h5.heap) h7).1
   refine ⟨Nat.le_trans hlow h2,wpIn_seq (wpIn_mono h3.wp ?_)⟩
   rintro e a1 w1 ⟨rfl,j1,h4,h5,h6,h7⟩
   rw [hex]
   refine wpIn_mono (hm2 n base j1 a1 w1 rd' (hrd.mono h5.sub) h4 h6 (Nat.le_trans hb h5.heap) h7).2.wp ?_
   exact fun e a2 w2 h=>h.after hdom h5 hlow
  | exit id =>
   unfold onNormal at h1
   rw [hex] at h1
   cases h1
   refine ⟨0,fun n base j a w rd' hrd hs hT hb hD=>?_⟩
   obtain ⟨h2,h3⟩:=hm n base j a w rd' hrd hs hT hb hD
   refine ⟨h2,wpIn_seq (wpIn_mono h3.wp ?_)⟩
   rintro e a1 w1 ⟨he,h4⟩
   have he':e = .exit id:=by rw [he,hex];rfl
   subst he'
   exact ⟨he,h4⟩
  | ret =>
   unfold onNormal at h1
   rw [hex] at h1
   cases h1
   refine ⟨0,fun n base j a w rd' hrd hs hT hb hD=>?_⟩
   obtain ⟨h2,h3⟩:=hm n base j a w rd' hrd hs hT hb hD
   refine ⟨h2,wpIn_seq (wpIn_mono h3.wp ?_)⟩
   rintro e a1 w1 ⟨he,h4⟩
   have he':e = .ret:=by rw [he,hex];rfl
   subst he'
   exact ⟨he,h4⟩
 | block id b ih =>
  intro rd T S r h0 hc
  obtain ⟨q,hq,h1⟩:=ob_some h0
  obtain ⟨m,hm⟩:=ih rd T S q hq hc
  refine ⟨0,fun n base j a w rd' hrd hs hT hb hD=>?_⟩
  obtain ⟨h2,h3⟩:=hm n base j a w rd' hrd hs hT hb hD
  unfold onExit at h1
  cases hex:q.ex with
  | normal =>
   rw [hex] at h1;cases h1
   refine ⟨h2,wpIn_block (wpIn_mono h3.wp ?_)⟩
   rintro e a1 w1 ⟨he,h4⟩
   have he':e = .normal:=by rw [he,hex];rfl
   subst he'
   exact ⟨he,h4⟩
  | ret =>
   rw [hex] at h1;cases h1
   refine ⟨h2,wpIn_block (wpIn_mono h3.wp ?_)⟩
   rintro e a1 w1 ⟨he,h4⟩
   have he':e = .ret:=by rw [he,hex];rfl
   subst he'
   exact ⟨he,h4⟩
  | exit k =>
   rw [hex] at h1
   have hr:r=⟨bf (Nat.beq k id) .normal (.exit k),q.T,q.S⟩:=by cases h1;rfl
   subst hr
   refine ⟨h2,wpIn_block (wpIn_mono h3.wp ?_)⟩
   rintro e a1 w1 ⟨he,h4⟩
   have he':e = .exit k:=by rw [he,hex];rfl
   subst he'
   show if k=id then _ else _
   by_cases hk:k=id
   ·rw [if_pos hk]
    have:Nat.beq k id=true:=by rw [hk];exact Nat.beq_refl id
    rw [this]
    exact ⟨rfl,h4⟩
   ·rw [if_neg hk,beq_ne hk]
    exact ⟨rfl,h4⟩
 | loop b ih =>
  intro rd T S r h0 hc
  obtain ⟨q,hq,h1⟩:=ob_some h0
  obtain ⟨m,hm⟩:=ih rd T S q hq hc
  cases hex:q.ex with
  | normal =>
   unfold onNormal at h1
   rw [hex] at h1
   obtain ⟨m2,hm2⟩:=hC (.loop b) rd q.T q.S r h1 hc
   refine ⟨m2+1,fun n base j a w rd' hrd hs hT hb hD=>?_⟩
   obtain ⟨h2,h3⟩:=hm n base j a w rd' hrd hs hT hb hD
   have hdom:=fun b x (hb:j b=some x)=>(hs.dom b x hb).1
   have hlow:r.S.low≤q.S.low:=by
    obtain ⟨e,a1,w1,_,j1,h4,h5,h6,h7⟩:=wpIn_some h3.wp
    exact (hm2 n base j1 a1 w1 rd' (hrd.mono h5.sub) h4 h6 (Nat.le_trans hb h5.heap) h7).1
   refine ⟨Nat.le_trans hlow h2,wpIn_mono h3.wp ?_⟩
   rintro e a1 w1 ⟨rfl,j1,h4,h5,h6,h7⟩
   rw [hex]
   have h8:=(hm2 n base j1 a1 w1 rd' (hrd.mono h5.sub) h4 h6 (Nat.le_trans hb h5.heap) h7).2
   have hmono:∀ (m:Nat) (a2:Act) (w2:World),b.roundsIn (fenceOf rd') n G.P (CPost G base j1 q.S w1 r) m a2 w2→b.roundsIn (fenceOf rd') n G.P (CPost G base j S w r) m a2 w2:=by
    intro m
    induction m with
    | zero=>exact fun _ _ h=>h
    | succ m ihm =>
     intro a2 w2 h
     rw [roundsIn_succ] at h ⊢
     refine wpIn_mono h fun e a3 w3 h=>?_
     cases e with
     | normal=>exact ihm a3 w3 h
     | exit k=>exact CPost.after hdom h5 hlow h
     | goto k=>exact CPost.after hdom h5 hlow h
     | ret=>exact CPost.after hdom h5 hlow h
     | panic k=>exact CPost.after hdom h5 hlow h
     | outgrown=>exact CPost.after hdom h5 hlow h
   exact hmono m2 a1 w1 h8
  | exit id =>
   unfold onNormal at h1
   rw [hex] at h1
   cases h1
   refine ⟨1,fun n base j a w rd' hrd hs hT hb hD=>?_⟩
   obtain ⟨h2,h3⟩:=hm n base j a w rd' hrd hs hT hb hD
   refine ⟨h2,wpIn_mono h3.wp ?_⟩
   rintro e a1 w1 ⟨he,h4⟩
   have he':e = .exit id:=by rw [he,hex];rfl
   subst he'
   exact ⟨he,h4⟩
  | ret =>
   unfold onNormal at h1
   rw [hex] at h1
   cases h1
   refine ⟨1,fun n base j a w rd' hrd hs hT hb hD=>?_⟩
   obtain ⟨h2,h3⟩:=hm n base j a w rd' hrd hs hT hb hD
   refine ⟨h2,wpIn_mono h3.wp ?_⟩
   rintro e a1 w1 ⟨he,h4⟩
   have he':e = .ret:=by rw [he,hex];rfl
   subst he'
   exact ⟨he,h4⟩
theorem set_all {j:Inj}:∀ (vs vs':List Value) (i:Nat) (t:Tr Value) (pre:List Value),VsRel j vs vs'→pre.length=i→(∀ k v,t.get k=some v→∃ v',pre[k]? = some v'∧VRel j v v') →
  ∀ k v,(setAll vs i t).get k=some v→∃ v',(pre++vs')[k]? = some v'∧VRel j v v'
 | [],vs',i,t,pre,h,_,ht,k,v,hk=>by
  cases h
  obtain ⟨v',h1,h2⟩:=ht k v hk
  exact ⟨v',by simpa using h1,h2⟩
 | u::us,vs',i,t,pre,h,hp,ht,k,v,hk=>by
  cases h with
  | cons hu hus =>
   rename_i u' us'
   have:=set_all us us' (i+1) (t.set i u) (pre++[u']) hus (by simp [hp]) (fun k v hk=>by
    rw [Tr.get_set] at hk
    split at hk
    ·rename_i e;cases hk;subst e;exact ⟨u',by simp [←hp],hu⟩
    ·obtain ⟨v',h1,h2⟩:=ht k v hk
     have:=(List.getElem?_eq_some_iff.1 h1).1
     exact ⟨v',by rw [List.getElem?_append_left this];exact h1,h2⟩) k v hk
   simpa using this
def leftOf (tmps:Array Value) (r:ResultVar):Sem Value:=match r with
 | .tmp t=>pure (tmps.getD t undef)
 | .cell c t=>do loadVar t (←asAddr (tmps.getD c undef))
theorem results_rel (hG:GoodOK G) {T:Fr} {S:St} {j:Inj} {a:Act} {w:World} (hs:Sim G j S w) (hT:TRel j T a.tmps):∀ (l:List ResultVar) (vs:List Value),resultsL G.E T S l=some vs →
  ∃ vs',(l.mapM (leftOf a.tmps)).run G.P w = .ok vs' w∧VsRel j vs vs'
 | [],vs,h=>by cases h;exact ⟨[],rfl,.nil⟩
 | r::l,vs,h=>by
  obtain ⟨v,hv,h1⟩:=ob_some h
  obtain ⟨us,hus,h2⟩:=ob_some h1
  cases h2
  obtain ⟨vs',h3,h4⟩:=results_rel hG hs hT l us hus
  have hone:∃ v',(leftOf a.tmps r).run G.P w = .ok v' w∧VRel j v v':=by
   cases r with
   | tmp t =>
    obtain ⟨v',h5,h6⟩:=hT.2 t v hv
    exact ⟨v',by simp [leftOf,Array.getD_eq_getD_getElem?,h5],h6⟩
   | cell c t =>
    obtain ⟨p,hp,h5⟩:=ob_some hv
    obtain ⟨u,hu,h6⟩:=ob_some hp
    have:=addrOf_some h6;subst this
    obtain ⟨u',h7,h8⟩:=hT.2 c _ hu
    obtain ⟨p',rfl,h9⟩:=h8.ptr_inv
    obtain ⟨v',h10,h11⟩:=hs.load_var hG h9 h5
    exact ⟨v',by simp [leftOf,Array.getD_eq_getD_getElem?,h7,asAddr,h10],h11⟩
  obtain ⟨v',h5,h6⟩:=hone
  refine ⟨v'::vs',?_,.cons h6 h4⟩
  rw [List.mapM_cons,Sem.run_bind,h5]
  simp only [Result.andThen_ok,Sem.run_bind,h3,Sem.run_pure]
theorem one_rel {j:Inj} {vs vs':List Value} (h:VsRel j vs vs'):VRel j (oneL vs) (if h:vs'.toArray.size=1 then vs'.toArray[0] else .tuple vs'.toArray):=by
 cases h with
 | nil=>exact .tuple .nil
 | cons h1 h2 =>
  cases h2 with
  | nil=>exact h1
  | cons h3 h4 =>
   have:∀ (v1 v2:Value) (l:List Value),oneL (v1::v2::l) = .tuple (v1::v2::l).toArray:=fun _ _ _=>rfl
   rw [this,dif_neg (by simp)]
   exact .tuple (.cons h1 (.cons h3 h4))
theorem take_marks {P:Program} {r:Nat} {w:World} (h:w.heap[r]? = some (.deferred (some []))):(Instr.takeDeferred r).run P w = .ok [] (w.putObj r (.deferred none)):=by
 simp [Instr.takeDeferred,getObj,setObj,Sem.run,h,World.putObj,bind,Sem.bind,pure]
theorem leave_sound (hG:GoodOK G) {F:Fence} {n:Nat} {fn:Func} {base:Nat} {j j':Inj} {S S':St} {w0:World} {lo:Nat} {T:Fr} {tmps:Array Value} {vs:List Value} (hres:resultsL G.E T S' fn.results.toList=some vs) (hT:TRel j' T tmps) (hb:w0.heap.size≤base) :
  ∀ (ds:List Deferred) (w:World),Defs base j' w ds→Sim G j' S' w→Ext lo j S w0 j' S' w→LeavesInM F n G.P fn tmps (fun e w'=>∃ v' j',e = .returned v'∧VRel j' (oneL vs) v'∧Sim G j' S' w'∧Ext lo j S w0 j' S' w') ds .returning w
 | [],w,_,hs,he=>by
  obtain ⟨vs',h1,h2⟩:=results_rel (a:={ tmps:=tmps,defers:=[] }) hG hs hT fn.results.toList vs hres
  refine ⟨_,?_,_,j',rfl,one_rel h2,hs,he⟩
  unfold results
  rw [Sem.run_bind,Array.mapM_eq_mapM_toList,Sem.run_map]
  show ((Sem.run G.P (List.mapM (leftOf tmps) fn.results.toList) w).andThen _).andThen _=_
  rw [show Sem.run G.P (List.mapM (leftOf tmps) fn.results.toList) w=_ from h1]
  rfl
 | d::ds,w,⟨⟨r,h1,h2,h3,h4,h5⟩,hd⟩,hs,he=>by
  have hlt:r<w.heap.size:=(Array.getElem?_eq_some_iff.1 h3).1
  refine ⟨by simp,.inl ⟨r,_,by rw [h1],take_marks h3,leave_sound hG hres hT hb ds _ ?_ ?_ ?_⟩⟩
  ·have key:∀ ds,Defs base j' w ds→(∀ d'∈ds,d'≠d)→Defs base j' (w.putObj r (.deferred none)) ds:=by
    intro ds
    induction ds with
    | nil=>exact fun _ _=>trivial
    | cons d' ds ih =>
     rintro ⟨⟨r',h6,h7,h8,h9,h10⟩,hd'⟩ hne
     refine ⟨⟨r',h6,h7,?_,h9,h10⟩,ih hd' fun d'' hd''=>hne d'' (by simp [hd''])⟩
     have:r'≠r:=fun e=>hne d' (by simp) (by rw [h6,h1,e])
     rw [World.putObj_heap_other this];exact h8
   exact key ds hd h5
  ·refine ⟨fun b x hb=>⟨(hs.dom b x hb).1,by rw [World.putObj_size];exact (hs.dom b x hb).2⟩,fun b x o hb ho=>?_,hs.inj,hs.rom.world (fun b x hb=>World.putObj_heap_other (h4 b x hb)) (fun _ h=>h)⟩
   rw [World.putObj_heap_other (h4 b x hb)]
   exact hs.objs b x o hb ho
  ·refine ⟨he.sub,he.size,by rw [World.putObj_size];exact he.heap,he.dead,he.lfr,fun c hc hf=>?_,he.new,he.all,he.io⟩
   rw [World.putObj_heap_other (by omega)]
   exact he.fr c hc hf
theorem litS_rel_eq {j:Inj} {v v':Value} (h:VRel j v v') (hl:litS v=true):v'=v:=by
 cases h <;> first | rfl | (simp [litS] at hl)
theorem lits_rel_eq {j:Inj}:∀ {l:List Value} {l':Array Value},VsRel j l l'.toList→l.all litS=true→l.toArray=l':=by
 have key:∀ (l l':List Value),VsRel j l l'→l.all litS=true→l'=l:=by
  intro l
  induction l with
  | nil=>intro l' h _;cases h;rfl
  | cons v l ih =>
   intro l' h hl
   cases h with
   | cons h1 h2 =>
    simp only [List.all_cons,Bool.and_eq_true] at hl
    rw [litS_rel_eq h1 hl.1,ih _ h2 hl.2]
 intro l l' h hl
 rw [←key l l'.toList h hl]
theorem intsOf_some:∀ {l:List Value} {zs:List Int},intsOf l=some zs→l=zs.map (.int .i64)
 | [],zs,h=>by cases h;rfl
 | v::l,zs,h=>by
  change ob (int64Of v) (fun n=>ob (intsOf l) fun l=>some (n::l))=some zs at h
  obtain ⟨n,h0,h⟩:=ob_some h
  obtain ⟨r,h1,h2⟩:=ob_some h
  cases h2
  unfold int64Of at h0
  split at h0
  ·cases h0
   rw [intsOf_some h1];rfl
  ·cases h0
theorem sort_sound {j:Inj} {S:St} {w:World} {f:FuncId} {args:List Value} {args':Array Value} {v:Value} {S':St} (h2:∀ p cap w,Calls G.P f #[.slice p 0 cap] w fun e w'=>e = .returned (.tuple #[])∧w'=w) (h3:SortOK G.P f)
  (hs:Sim G j S w) (ha:VsRel j args args'.toList) (h:sortE args S=some (v,S')):S'.low≤S.low∧Calls G.P f args' w (RPost G j S w v S'):=by
 unfold sortE at h
 split at h
 case h_2=>cases h
 rename_i a n c
 have hargs:∃ u,args' = #[u]∧VRel j (.slice a n c) u:=by
  have hx:VsRel j [.slice a n c] args'.toList:=ha
  cases hx':args'.toList with
  | nil=>rw [hx'] at hx;cases hx
  | cons u l =>
   rw [hx'] at hx
   cases hx with
   | cons q1 q2 =>
    cases q2
    exact ⟨u,by rw [←Array.toArray_toList (xs:=args'),hx'],q1⟩
 obtain ⟨u,rfl,hu⟩:=hargs
 cases hn:Nat.beq n 0 with
 | true =>
  rw [hn] at h
  cases h
  have hn0:=beq_eq hn
  have hu2:∃ p cap,u = .slice p 0 cap:=by
   cases hu with
   | nilSlice=>exact ⟨_,_,rfl⟩
   | slice _=>exact ⟨_,_,by rw [hn0]⟩
  obtain ⟨p,cap,rfl⟩:=hu2
  refine ⟨Nat.le_refl _,(h2 p cap w).mono ?_⟩
  rintro e w' ⟨rfl,rfl⟩
  exact ⟨_,j,rfl,.tuple .nil,hs,Ext.refl _ _ _ _⟩
 | false =>
  rw [hn] at h
  cases a with
  | none=>cases h
  | some ad =>
   change ob (S.cells ad.block) _=_ at h
   obtain ⟨cs,k1,h⟩:=ob_some h
   obtain ⟨k2,h⟩:=gd_some h
   obtain ⟨zs,k3,h⟩:=ob_some h
   obtain ⟨c',k4,h⟩:=ob_some h
   cases h
   obtain ⟨l,k5,k6⟩:=ob_some k3
   have k7:=intsOf_some k6
   have k2:=blt_lt k2
   have hn0:n≠0:=fun e=>by subst e;cases hn
   have hlen:zs.length=n:=by
    have h4:=congrArg List.length k7
    rw [List.length_map] at h4
    obtain ⟨k8,k9⟩:=gd_some k5
    cases k9
    have k8:ad.off+n≤cs.1.length:=ble_le k8
    rw [List.length_take,List.length_drop] at h4
    omega
   have hcut:ad.off+n≤cs.1.length∧(cs.1.drop ad.off).take n=zs.map (.int .i64):=by
    obtain ⟨k8,k9⟩:=gd_some k5
    cases k9
    exact ⟨ble_le k8,k7⟩
   cases hu with
   | slice hu =>
    rename_i a' cc
    obtain ⟨x,hx,hb,hsp,hnc,_,_,hoff⟩:=hu
    have hcc:cc≠0:=by omega
    have hoff:=(hoff.resolve_left hcc).1
    have ea:a'=⟨x.blk,ad.off+x.delta,none⟩:=by
     obtain ⟨b1,o1,s1⟩:=a'
     have e1:b1=x.blk:=hb hcc
     have e2:s1=none:=hsp hcc
     have e3:o1=ad.off+x.delta:=hoff
     rw [e1,e2,e3]
    subst ea
    have hheap:=cells_some k1
    obtain ⟨o',m1,m2⟩:=hs.objs _ _ _ hx hheap
    obtain ⟨cm,em,rfl,m3,m4,m5,m6⟩:=m2
    have hlow:(S.put ad.block (.cells c' cs.2)).low≤S.low:=Nat.min_le_right _ _
    refine ⟨hlow,?_⟩
    have hcell:∀ i,i<zs.length→cm[ad.off+x.delta+i]? = some (.int .i64 (zs.getD i 0)):=by
     intro i hi
     have h6:cs.1[ad.off+i]? = some (.int .i64 (zs.getD i 0)):=by
      have h7:=congrArg (fun l=>l[i]?) hcut.2
      simp only [List.getElem?_take,List.getElem?_drop,List.getElem?_map] at h7
      rw [if_pos (by omega)] at h7
      rw [h7,List.getElem?_eq_getElem hi,List.getD_eq_getElem?_getD,List.getElem?_eq_getElem hi];rfl
     obtain ⟨v',h8,h9⟩:=m6 _ _ h6
     have:=litS_rel_eq h9 rfl
     subst this
     rw [←h8];congr 1;omega
    have hc:=h3 x.blk (ad.off+x.delta) cc zs w cm em (by omega) m1 (by omega) hcell
    rw [hlen] at hc
    refine hc.mono ?_
    rintro e w' ⟨rfl,hio,g1,g2,cm',g3,g4,g5⟩
    have hl:live S ad.block:=⟨_,hheap,by simp⟩
    have hpaste:ad.off+n≤cs.1.length∧c'=cs.1.take ad.off++(sortZ zs).map (.int .i64)++cs.1.drop (ad.off+n):=by
     obtain ⟨q1,q2⟩:=gd_some k4
     cases q2
     have:((sortZ zs).map (Value.int .i64)).length=n:=by rw [List.length_map,sortZ,List.length_mergeSort,hlen]
     rw [this] at q1 ⊢
     exact ⟨ble_le q1,rfl⟩
    have hsl:(sortZ zs).length=n:=by rw [sortZ,List.length_mergeSort,hlen]
    have hc'len:c'.length=cs.1.length:=by
     rw [hpaste.2]
     simp only [List.length_append,List.length_take,List.length_drop,List.length_map,hsl]
     have:=hpaste.1
     omega
    have horel:ORel G j x (.cells c' cs.2) (.cells cm' em (0,0)):=by
     refine ⟨cm',em,rfl,by rw [g4,m3],by rw [hc'len];exact m4,m5,fun i v hv=>?_⟩
     have hi:i<cs.1.length:=by
      rw [←hc'len];exact (List.getElem?_eq_some_iff.1 hv).1
     rw [g5 _ (by omega)]
     rw [hpaste.2] at hv
     by_cases h1:i<ad.off
     ·rw [if_neg (by omega)]
      rw [List.append_assoc,List.getElem?_append_left (by rw [List.length_take];omega),List.getElem?_take,if_pos h1] at hv
      exact m6 i v hv
     ·by_cases h2:i<ad.off+n
      ·rw [if_pos (by omega)]
       rw [List.append_assoc,List.getElem?_append_right (by rw [List.length_take];omega),List.length_take,show min ad.off cs.1.length=ad.off by have:=hpaste.1;omega,List.getElem?_append_left (by rw [List.length_map,hsl];omega),List.getElem?_map,
        List.getElem?_eq_getElem (by omega)] at hv
       cases hv
       refine ⟨_,rfl,?_⟩
       rw [show x.delta+i - (ad.off+x.delta)=i - ad.off by omega,List.getD_eq_getElem?_getD,List.getElem?_eq_getElem (by omega)]
       exact .int _ _
      ·rw [if_neg (by omega)]
       rw [List.getElem?_append_right (by rw [List.length_append,List.length_take,List.length_map,hsl];omega),List.getElem?_drop,List.length_append,List.length_take,List.length_map,hsl] at hv
       refine m6 i v ?_
       rw [←hv];congr 1
       have:=hpaste.1
       omega
    -- the same memory but for the block: in two steps,the block,and what was added
    have hsim3:Sim G j (S.put ad.block (.cells c' cs.2)) w'∧∀ lo,lo≤ad.block→Ext lo j S w j (S.put ad.block (.cells c' cs.2)) w':=by
     have hlive:∀ c,live (S.put ad.block (.cells c' cs.2)) c→live S c:=fun c hv=>by
      obtain ⟨p,hp,hd⟩:=hv
      rw [get_put] at hp
      by_cases e:c=ad.block
      ·rw [e];exact hl
      ·rw [if_neg e] at hp;exact ⟨p,hp,hd⟩
     have key:∀ lo,lo≤ad.block→Ext lo j S w j (S.put ad.block (.cells c' cs.2)) w':=fun lo hlo =>
      ⟨Le.refl j,Nat.le_refl _,g1,fun c _ hv=>hlive c hv,fun c _ hc=>by rw [get_put,if_neg (by omega)],fun c hc hf=>g2 c hc fun e=>hf ad.block x hx hlo hl e.symm,(fun c y hc hn=>by rw [hc] at hn;cases hn),(fun b h1 h2=>by
       have h3:b<S.size:=h2
       omega),hio⟩
     refine ⟨⟨fun c y hc=>⟨(hs.dom c y hc).1,Nat.lt_of_lt_of_le (hs.dom c y hc).2 g1⟩,fun c y p hc hp=>?_,fun c d y z hc hd lc ld e=>hs.inj c d y z hc hd (hlive c lc) (hlive d ld) e,hs.rom.ext hs.dom (key 0 (Nat.zero_le _))⟩,key⟩
     rw [get_put] at hp
     by_cases e:c=ad.block
     ·subst e
      rw [if_pos rfl] at hp;cases hp
      rw [hx] at hc;cases hc
      exact ⟨_,g3,horel⟩
     ·rw [if_neg e] at hp
      have hlt:=(hs.dom c y hc).2
      cases hp':p with
      | dead=>exact ⟨w'.heap[y.blk]'(by omega),by rw [Array.getElem?_eq_getElem],trivial⟩
      | _ =>
       all_goals
        obtain ⟨p',q1,q2⟩:=hs.objs c y p hc hp
        refine ⟨p',?_,hp' ▸ q2⟩
        rw [g2 _ hlt (fun e'=>e (hs.inj c ad.block y x hc hx ⟨p,hp,by rw [hp'];simp⟩ hl e')),q1]
    exact ⟨_,j,rfl,.tuple .nil,hsim3.1,hsim3.2 _ (Nat.min_le_left _ _)⟩
section
variable {j:Inj} {S S':St} {w:World}
theorem insL_rel {sz i:Nat} {old old' new new':List Value} (h:VsRel j old old') (h2:VsRel j new new'):VsRel j (insL sz i old new) (insL sz i old' new') :=
 ((h.take _).append h2).append (h.drop _)
theorem insL_len {sz i n:Nat} {old new:List Value} (h:old.length=n*sz) (h2:new.length=sz) (hi:i≤n):(insL sz i old new).length=(n+1)*sz:=by
 unfold insL
 have:i*sz≤n*sz:=Nat.mul_le_mul_right _ hi
 rw [List.length_append,List.length_append,List.length_take,List.length_drop,h,h2,Nat.add_mul]
 omega
theorem row_list {x:JB} {rc:Array Value} {cs old:List Value} {off off' k:Nat} (hrel:∀ (i:Nat) (v:Value),cs[i]? = some v→∃ v':Value,rc[x.delta+i]? = some v'∧VRel j v v') (hc:cut cs off k=some old) (ho:off'=off+x.delta) :
  ∃ old':List Value,VsRel j old old'∧(∀ q v,old'[q]? = some v→rc[off'+q]? = some v)∧old'.length=k:=by
 obtain ⟨h1,h2⟩:=cut_some hc
 have hlen:old.length=k:=by rw [h2,List.length_take,List.length_drop];omega
 have hget:∀ (q:Nat) (v:Value),old[q]? = some v→∃ v':Value,rc[off'+q]? = some v'∧VRel j v v':=fun q v hq=>by
  rw [h2,List.getElem?_take] at hq
  split at hq
  ·rw [List.getElem?_drop] at hq
   obtain ⟨v',k1,k2⟩:=hrel _ v hq
   refine ⟨v',?_,k2⟩
   rw [ho,show off+x.delta+q=x.delta+(off+q) by omega];exact k1
  ·cases hq
 have hsz:∀ q,q<k→off'+q<rc.size:=fun q hq=>by
  obtain ⟨v',k1,_⟩:=hget q _ (List.getElem?_eq_getElem (by omega))
  exact (Array.getElem?_eq_some_iff.1 k1).1
 have hl2:((rc.toList.drop off').take k).length=k:=by
  rw [List.length_take,List.length_drop,Array.length_toList]
  rcases Nat.eq_zero_or_pos k with e | e
  ·omega
  ·have:=hsz (k - 1) (by omega);omega
 have hg2:∀ q,q<k→((rc.toList.drop off').take k)[q]? = rc[off'+q]? :=fun q hq=>by
  rw [List.getElem?_take,if_pos hq,List.getElem?_drop,Array.getElem?_toList]
 refine ⟨(rc.toList.drop off').take k,VsRel.of_get (by rw [hlen,hl2]) fun q v hq=>?_,fun q v hq=>?_,hl2⟩
 ·have hqk:q<k:=by have:=(List.getElem?_eq_some_iff.1 hq).1;omega
  obtain ⟨v',k1,k2⟩:=hget q v hq
  exact ⟨v',by rw [hg2 q hqk];exact k1,k2⟩
 ·have hqk:q<k:=by have:=(List.getElem?_eq_some_iff.1 hq).1;omega
  rw [hg2 q hqk] at hq
  exact hq
theorem scal_rel {l l':List Value} (h:VsRel j l l') (hs:l.all scalar=true):∀ v∈l',v.oneCell'=true:=by
 intro v' hv'
 obtain ⟨i,hi⟩:=List.mem_iff_getElem?.1 hv'
 have hil:i<l.length:=by have:=(List.getElem?_eq_some_iff.1 hi).1;have:=h.length;omega
 obtain ⟨u,hu,hr⟩:=h.get (List.getElem?_eq_getElem hil)
 rw [hi] at hu;cases hu
 rw [hr.scalar]
 exact List.all_eq_true.1 hs _ (List.getElem_mem hil)
theorem new_row (hs:Sim G j S w) {elem:TypeId} {e:LTy} (he:G.E.ti.get elem=some e) {l l':List Value} (hl:VsRel j l l') {k g:Nat} (hk:l.length=k*e.size) {row:Array Value} {w':World} (hg:k≤g) (hio:SameIo w w') (g1:w'.heap=w.heap.push (.cells row elem (0,0))) (g2:g*e.size≤row.size) (g3:∀ (q:Nat) (v:Value),l'[q]? = some v→row[q]? = some v) :
  ∃ j',VRel j' (.slice (some ⟨S.size,0,some 0⟩) k k) (.slice (some ⟨w.heap.size,0,none⟩) k g)∧Sim G j' (S.new (.cells l elem)) w'∧∀ lo,Ext lo j S w j' (S.new (.cells l elem)) w':=by
 have hw:w'=World.alloc { w' with heap:=w.heap } (.cells row elem):=by
  rw [←World.alloc_eq]
  cases w'
  dsimp only at g1 ⊢
  rw [g1]
 have hlen:l.length≤row.size:=by
  rw [hk]
  exact Nat.le_trans (Nat.mul_le_mul_right _ hg) g2
 have hio0:SameIo w { w' with heap:=w.heap }:=hio
 obtain ⟨h5,h6⟩:=(hs.heap_eq (w':={ w' with heap:=w.heap }) rfl).new ⟨w.heap.size,0,row.size,e.size⟩ (o:=.cells l elem) (o':=.cells row elem (0,0)) rfl (by
  refine ⟨row,elem,rfl,rfl,by show 0+_≤row.size;omega,fun t ht=>by rw [he] at ht;cases ht;rfl,?_⟩
  intro q u hq
  obtain ⟨u',k1,k2⟩:=hl.get hq
  exact ⟨u',by show row[0+q]? = some u';rw [Nat.zero_add];exact g3 q u' k1,k2.mono (ext_le (hs.fresh (Nat.le_refl _)))⟩)
 rw [←hw] at h5 h6
 exact ⟨_,slice_grown _ _ _ _ _ ⟨w.heap.size,0,row.size,e.size⟩ rfl rfl g2 hg,h5,fun lo=>(h6 lo).heap_eq rfl hio0⟩
theorem insZ_sound {f:FuncId} {elem:TypeId} {v:Value} {base:Option Addr} {ok:Bool} {c m m' vc:Nat} {i:Int} {va v':Addr} {cv0:Nat} (hI:∀ e,G.E.ti.get elem=some e→InsZ G.P f elem e.size)
  (hs:Sim G j S w) (hv:SRel j va v' m cv0 vc) (h:insZ G.E elem ok c i va m S=some (v,S')):S'.low≤S.low∧Calls G.P f #[.slice base 0 0,.int .i64 i,.slice (some v') m vc] w (RPost G j S w v S'):=by
 obtain ⟨e,he,h⟩:=ob_some h
 obtain ⟨hc,h⟩:=gd_some h
 obtain ⟨cv,hcv,h⟩:=ob_some h
 obtain ⟨new,hnew,h⟩:=ob_some h
 obtain ⟨hsc,h⟩:=gd_some h
 cases h
 simp only [Bool.and_eq_true] at hc
 obtain ⟨_,_,c3,c4,_⟩:=hc
 have c3:=beq_eq c3
 have c4:=of_decide_eq_true c4
 subst c3 c4
 obtain ⟨y,hy,hvb,hvsp,hvn,_,_,hvd⟩:=hv
 have hvb:=hvb (by omega)
 have hvsp:=hvsp (by omega)
 obtain ⟨hvoff,_⟩:=hvd.resolve_left (by omega)
 obtain ⟨vr,ve,hvrow,_,_,_,hvrel⟩:=hs.row hy hcv
 obtain ⟨new',hn1,hn2,hn3⟩:=row_list (off':=v'.off) hvrel hnew hvoff
 have ev:v'=⟨y.blk,v'.off,none⟩:=by rw [←hvb,←hvsp]
 refine ⟨Nat.le_refl _,?_⟩
 rw [ev]
 refine (hI e he base y.blk v'.off vc new' w vr ve hn3 hvrow hn2 (scal_rel hn1 hsc)).mono ?_
 rintro ex w' ⟨g,row,hg,rfl,hio,g1,g2,g3⟩
 obtain ⟨j',k1,k2,k3⟩:=new_row hs he hn1 (k:=1) (by rw [hn1.length,hn3,Nat.one_mul]) hg hio g1 g2 g3
 exact ⟨_,j',rfl,k1,k2,k3 _⟩
theorem ins_sound {f:FuncId} {elem:TypeId} {args:List Value} {args':Array Value} {v:Value} (hI:∀ e,G.E.ti.get elem=some e→InsOK G.P f elem e.size∧InsZ G.P f elem e.size)
  (hs:Sim G j S w) (ha:VsRel j args args'.toList) (h:insE G.E elem args S=some (v,S')):S'.low≤S.low∧Calls G.P f args' w (RPost G j S w v S'):=by
 unfold insE at h
 split at h
 case h_3=>cases h
 ·rename_i n c i va m cv0
  have hargs:∃ v' vc,args' = #[.slice none 0 0,.int .i64 i,.slice (some v') m vc]∧SRel j va v' m cv0 vc:=by
   have hx:VsRel j [.slice none n c,.int .i64 i,.slice (some va) m cv0] args'.toList:=ha
   cases hx':args'.toList with
   | nil=>rw [hx'] at hx;cases hx
   | cons u l =>
    rw [hx'] at hx
    cases hx with
    | cons q1 q2 =>
     cases q2 with
     | cons q3 q4 =>
      cases q4 with
      | cons q5 q6 =>
       cases q6
       cases q1
       cases q3
       cases q5 with
       | slice k2=>exact ⟨_,_,by rw [←Array.toArray_toList (xs:=args'),hx'],k2⟩
  obtain ⟨v',vc,rfl,hv⟩:=hargs
  exact insZ_sound (m':=m) (fun e he=>(hI e he).2) hs hv h
 rename_i a n c i va m cv0
 cases hn0:Nat.beq n 0 with
 | true =>
  rw [hn0] at h
  have h:insZ G.E elem (Option.isNone a.spot) c i va m S=some (v,S'):=h
  have hn0:=beq_eq hn0
  subst hn0
  have hcz:c=0∧a.spot=none:=by
   obtain ⟨e,_,h2⟩:=ob_some h
   obtain ⟨hc,_⟩:=gd_some h2
   simp only [Bool.and_eq_true] at hc
   exact ⟨beq_eq hc.2.1,Option.isNone_iff_eq_none.1 hc.1⟩
  have hargs:∃ a' v' vc,args' = #[.slice (some a') 0 0,.int .i64 i,.slice (some v') m vc]∧SRel j va v' m cv0 vc:=by
   have hx:VsRel j [.slice (some a) 0 c,.int .i64 i,.slice (some va) m cv0] args'.toList:=ha
   cases hx':args'.toList with
   | nil=>rw [hx'] at hx;cases hx
   | cons u l =>
    rw [hx'] at hx
    cases hx with
    | cons q1 q2 =>
     cases q2 with
     | cons q3 q4 =>
      cases q4 with
      | cons q5 q6 =>
       cases q6
       cases q1 with
       | slice k1 =>
        obtain ⟨x,_,_,_,_,hex,_,_⟩:=k1
        have hcc:=hex hcz.2
        rw [hcz.1] at hcc
        subst hcc
        cases q3
        cases q5 with
        | slice k2=>exact ⟨_,_,_,by rw [←Array.toArray_toList (xs:=args'),hx'],k2⟩
  obtain ⟨a',v',vc,rfl,hv⟩:=hargs
  exact insZ_sound (m':=m) (fun e he=>(hI e he).2) hs hv h
 | false =>
 rw [hn0] at h
 have hI:=fun e he=>(hI e he).1
 have h:(ob (G.E.ti.get elem) fun e=>_)=some (v,S'):=h
 obtain ⟨e,he,h⟩:=ob_some h
 obtain ⟨hc,h⟩:=gd_some h
 obtain ⟨cs,hcs,h⟩:=ob_some h
 obtain ⟨hel,h⟩:=gd_some h
 obtain ⟨old,hold,h⟩:=ob_some h
 obtain ⟨cv,hcv,h⟩:=ob_some h
 obtain ⟨new,hnew,h⟩:=ob_some h
 obtain ⟨hsc,h⟩:=gd_some h
 cases h
 simp only [Bool.and_eq_true] at hc hsc
 obtain ⟨c1,c2,c3,c4,c5,c6,c7,c8⟩:=hc
 have c2:=beq_eq c2
 have c3:=ble_le c3
 have c4:=of_decide_eq_true c4
 have c5:=of_decide_eq_true c5
 have c6:=blt_lt c6
 have c7:=blt_lt c7
 have hel:=beq_eq hel
 subst c2
 have hne:a.block≠va.block:=fun e=>by rw [e,Nat.beq_refl] at c8;cases c8
 have hargs:∃ a' cc v' vc,args' = #[.slice (some a') n cc,.int .i64 i,.slice (some v') 1 vc]∧SRel j a a' n c cc∧SRel j va v' 1 cv0 vc:=by
  have hx:VsRel j [.slice (some a) n c,.int .i64 i,.slice (some va) 1 cv0] args'.toList:=ha
  cases hx':args'.toList with
  | nil=>rw [hx'] at hx;cases hx
  | cons u l =>
   rw [hx'] at hx
   cases hx with
   | cons q1 q2 =>
    cases q2 with
    | cons q3 q4 =>
     cases q4 with
     | cons q5 q6 =>
      cases q6
      cases q1 with
      | slice k1 =>
       cases q3
       cases q5 with
       | slice k2=>exact ⟨_,_,_,_,by rw [←Array.toArray_toList (xs:=args'),hx'],k1,k2⟩
 obtain ⟨a',cc,v',vc,rfl,⟨x,hx,hb,hsp,hnc,_,hcc,hd⟩,⟨y,hy,hvb,hvsp,hvn,_,_,hvd⟩⟩:=hargs
 have hb:=hb (by omega)
 have hsp:=hsp (by omega)
 have hvb:=hvb (by omega)
 have hvsp:=hvsp (by omega)
 obtain ⟨hoff,hcap⟩:=hd.resolve_left (by omega)
 obtain ⟨hvoff,_⟩:=hvd.resolve_left (by omega)
 obtain ⟨si,hi⟩:∃ i,a.spot=some i:=Option.isSome_iff_exists.1 c1
 have hcap:=hcap.resolve_left (by rw [hi];simp)
 have hes:=hs.esize he hx (by rw [cells_some hcs,hel])
 obtain ⟨rc,re,hrow,hrs,_,_,hrel⟩:=hs.row hx hcs
 obtain ⟨vr,ve,hvrow,hvrs,_,_,hvrel⟩:=hs.row hy hcv
 obtain ⟨old',ho1,ho2,ho3⟩:=row_list (off':=a'.off) hrel hold hoff
 obtain ⟨new',hn1,hn2,hn3⟩:=row_list (off':=v'.off) hvrel hnew hvoff
 have hin:i.toNat≤n:=by simp only [Int.ofNat_eq_natCast] at c5;omega
 have hii:Value.int .i64 i = .int .i64 (i.toNat:Int):=by rw [Int.toNat_of_nonneg c4]
 have hblk:x.blk≠y.blk:=fun e=>hne (hs.inj _ _ x y hx hy (live_cells hcs) (live_cells hcv) e)
 have hrun:=hI e he x.blk a'.off n cc i.toNat y.blk v'.off vc old' new' w rc vr re ve hin c6 hnc c3 ho3 hn3 hblk hvrow hn2 (scal_rel hn1 hsc.1) (scal_rel ho1 hsc.2) hrow (by rw [hrs,hes];exact hcap) ho2
 have ea:a'=⟨x.blk,a'.off,none⟩:=by rw [←hb,←hsp]
 have ev:v'=⟨y.blk,v'.off,none⟩:=by rw [←hvb,←hvsp]
 have hil:(insL e.size i.toNat old new).length=(n+1)*e.size:=insL_len (by rw [ho1.length,ho3]) (by rw [hn1.length,hn3]) hin
 have hir:VsRel j (insL e.size i.toNat old new) (insL e.size i.toNat old' new'):=insL_rel ho1 hn1
 refine ⟨Nat.min_le_right _ _,?_⟩
 rw [hii,ea,ev]
 refine hrun.mono ?_
 rintro ex w' (⟨hroom,cb',rfl,hio,g1,g2,g3,g4,g5⟩ | ⟨g,row,hg,rfl,hio,g1,g2,g3⟩)
 ·obtain ⟨h6,h7⟩:=hs.turn (y:=⟨x.blk,a'.off,x.csize,x.esize⟩) (o:=.cells (insL e.size i.toNat old new) elem) hx (live_cells hcs) rfl g1 g3 g2 (by
   refine ⟨_,re,rfl,by show cb'.size=x.csize;rw [g4,hrs],?_,fun t ht=>by rw [he] at ht;cases ht;exact hes,?_⟩
   ·show a'.off+(insL e.size i.toNat old new).length≤x.csize
    rw [hil,hes]
    exact Nat.le_trans (Nat.add_le_add_left (Nat.mul_le_mul_right _ hroom) _) hcap
   ·intro q u hq
    obtain ⟨u',k1,k2⟩:=hir.get hq
    exact ⟨u',g5 q u' k1,k2.mono (ext_le (hs.fresh (Nat.le_refl _)))⟩) hio
  refine ⟨_,_,rfl,?_,h6,h7 _ (Nat.min_le_left _ _)⟩
  exact .slice ⟨_,ext_self _ _ _,fun _=>rfl,fun _=>rfl,hroom,(fun h=>by cases h),hroom,.inr ⟨by show a'.off=0+a'.off;omega,.inr hcap⟩⟩
 ·obtain ⟨hk1,hk2⟩:=hs.kill hx (live_cells hcs)
  have hw:w'=World.alloc { w' with heap:=w.heap } (.cells row elem):=by
   rw [←World.alloc_eq]
   cases w'
   dsimp only at g1 ⊢
   rw [g1]
  have hio0:SameIo w { w' with heap:=w.heap }:=hio
  have hlen:(insL e.size i.toNat old new).length≤row.size:=by
   rw [hil]
   exact Nat.le_trans (Nat.mul_le_mul_right _ hg) g2
  obtain ⟨h5,h6⟩:=(hk1.heap_eq (w':={ w' with heap:=w.heap }) rfl).new ⟨w.heap.size,0,row.size,e.size⟩ (o:=.cells (insL e.size i.toNat old new) elem) (o':=.cells row elem (0,0)) rfl (by
   refine ⟨row,elem,rfl,rfl,by show 0+_≤row.size;omega,fun t ht=>by rw [he] at ht;cases ht;rfl,?_⟩
   intro q u hq
   obtain ⟨u',k1,k2⟩:=hir.get hq
   exact ⟨u',by show row[0+q]? = some u';rw [Nat.zero_add];exact g3 q u' k1,k2.mono (ext_le (hs.fresh (Nat.le_refl _)))⟩)
  rw [←hw] at h5 h6
  refine ⟨_,_,rfl,slice_grown _ _ _ _ _ ⟨w.heap.size,0,row.size,e.size⟩ rfl rfl g2 hg,h5,?_⟩
  exact (hk2 _ (Nat.min_le_left _ _)).trans (fun b x hb=>(hs.dom b x hb).1) ((h6 _).heap_eq rfl hio0) (Nat.le_refl _)
end
theorem call_fn (hG:GoodOK G) (hC:SoundCodeR G (evCode G.E callF codeF)):SoundCall G (callL G.E callF codeF):=by
 intro f args S v S' h00
 have h01:bf (hookL G.E f args) (some (.bool true,S)) (bf (isSortL G.E f) (libE G.E f args S) (bf (isOrcL G.E f) (ob (G.E.orc f args S) fun v=>some (v,S)) (ob (G.E.fns.get f) fun fn=>ob fn.body fun c=>gd (Nat.ble args.length fn.ntmps)
  (ob (evCode G.E callF codeF c none ⟨fn.ntmps,setAll args 0 .nil⟩ S) (leaveL G.E fn)))))=some (v,S'):=h00
 cases hh:hookL G.E f args with
 | true =>
  rw [hh] at h01
  cases h01
  unfold hookL at hh
  cases hk:G.E.hook with
  | none=>rw [hk] at hh;cases hh
  | some h =>
   rw [hk] at hh
   simp only [Bool.and_eq_true] at hh
   obtain ⟨h1,h2⟩:=hG.hook h hk
   have:=beq_eq hh.1;subst this
   refine ⟨h1,fun j args' w hs ha=>⟨Nat.le_refl _,?_⟩⟩
   have hnil:args=[]:=List.isEmpty_iff.1 hh.2
   subst hnil
   have:args' = #[]:=by
    have:=ha.length
    simpa using this.symm
   subst this
   refine (h2 w).mono ?_
   rintro e w' ⟨rfl,hio,h3,h4⟩
   refine ⟨_,j,rfl,.bool _,⟨fun b x hb=>⟨(hs.dom b x hb).1,Nat.lt_of_lt_of_le (hs.dom b x hb).2 h3⟩,fun b x o hb ho=>?_,hs.inj,hs.rom.world (fun b x hb=>h4 _ (hs.dom b x hb).2) (fun _ h=>h)⟩,
    ⟨Le.refl _,Nat.le_refl _,h3,fun _ _ h=>h,fun _ _ _=>rfl,fun c hc _=>h4 c hc,(fun b x h h'=>by rw [h] at h';cases h'),(fun b h1 h2=>by omega),hio⟩⟩
   rw [h4 _ (hs.dom b x hb).2]
   exact hs.objs b x o hb ho
 | false =>
 rw [hh] at h01
 have h02:bf (isSortL G.E f) (libE G.E f args S) (bf (isOrcL G.E f) (ob (G.E.orc f args S) fun v=>some (v,S)) (ob (G.E.fns.get f) fun fn=>ob fn.body fun c=>gd (Nat.ble args.length fn.ntmps)
  (ob (evCode G.E callF codeF c none ⟨fn.ntmps,setAll args 0 .nil⟩ S) (leaveL G.E fn))))=some (v,S'):=h01
 cases hso:isSortL G.E f with
 | true =>
  rw [hso] at h02
  have h02:bf (isSrtL G.E f) (sortE args S) (Option.rec none (fun h=>insE G.E h.2 args S) G.E.ins)=some (v,S'):=h02
  cases hsr:isSrtL G.E f with
  | true =>
   rw [hsr] at h02
   unfold isSrtL at hsr
   cases hk:G.E.sort with
   | none=>rw [hk] at hsr;cases hsr
   | some h =>
    rw [hk] at hsr
    have:=beq_eq hsr;subst this
    obtain ⟨h1,h2,h3⟩:=hG.sort f hk
    exact ⟨h1,fun j args' w hs ha=>sort_sound h2 h3 hs ha h02⟩
  | false =>
   rw [hsr] at h02
   unfold isSortL at hso
   rw [hsr,Bool.false_or] at hso
   unfold isInsL at hso
   cases hk:G.E.ins with
   | none=>rw [hk] at hso;cases hso
   | some h =>
    rw [hk] at hso
    have h02:(Option.rec none (fun h=>insE G.E h.2 args S) G.E.ins:Option (Value×St))=some (v,S'):=h02
    rw [hk] at h02
    obtain ⟨q,t⟩:=h
    have:=beq_eq hso;subst this
    obtain ⟨h1,h2⟩:=hG.ins _ _ hk
    exact ⟨h1,fun j args' w hs ha=>ins_sound h2 hs ha h02⟩
 | false =>
 rw [hso] at h02
 cases hor:isOrcL G.E f with
 | true =>
  rw [hor] at h02
  obtain ⟨u,hu,h1⟩:=ob_some h02
  cases h1
  obtain ⟨k1,k3,k4⟩:=hG.orc f args S v hor hu
  refine ⟨k1,fun j args' w hs ha=>⟨Nat.le_refl _,?_⟩⟩
  refine (k4 j args' w hs ha).mono ?_
  rintro e w' ⟨rfl,hio,h3,h4⟩
  refine ⟨_,j,rfl,litV_rel j k3,⟨fun b x hb=>⟨(hs.dom b x hb).1,Nat.lt_of_lt_of_le (hs.dom b x hb).2 h3⟩,fun b x o hb ho=>?_,hs.inj,hs.rom.world (fun b x hb=>h4 _ (hs.dom b x hb).2) (fun _ h=>h)⟩,
   ⟨Le.refl _,Nat.le_refl _,h3,fun _ _ h=>h,fun _ _ _=>rfl,fun c hc _=>h4 c hc,(fun b x h h'=>by rw [h] at h';cases h'),(fun b h1 h2=>by omega),hio⟩⟩
  rw [h4 _ (hs.dom b x hb).2]
  exact hs.objs b x o hb ho
 | false =>
 rw [hor] at h02
 have h0:ob (G.E.fns.get f) (fun fn=>ob fn.body fun c=>gd (Nat.ble args.length fn.ntmps)
  (ob (evCode G.E callF codeF c none ⟨fn.ntmps,setAll args 0 .nil⟩ S) (leaveL G.E fn)))=some (v,S'):=h02
 obtain ⟨fn,hfn,h1⟩:=ob_some h0
 obtain ⟨c,hc,h2⟩:=ob_some h1
 obtain ⟨hlen,h3⟩:=gd_some h2
 obtain ⟨q,hq,h4⟩:=ob_some h3
 obtain ⟨hex,h5⟩:=gd_some h4
 obtain ⟨vs,hvs,h6⟩:=ob_some h5
 cases h6
 obtain ⟨hf1,hf2,hf3⟩:=hG.fns f fn hfn
 refine ⟨⟨fn,hf1,hf2,by rw [hc];rfl⟩,fun j args' w hs ha=>?_⟩
 have hlen:=ble_le hlen
 have hal:args.length=args'.size:=by have:=ha.length;simpa using this
 have hT:TRel j ⟨fn.ntmps,setAll args 0 .nil⟩ (args'++Array.replicate (fn.ntmps - args'.size) undef):=by
  refine ⟨by simp;omega,fun k u hu=>?_⟩
  obtain ⟨u',h7,h8⟩:=set_all args args'.toList 0 .nil [] ha rfl (fun k v h=>by rw [Tr.get_nil] at h;cases h) k u hu
  refine ⟨u',?_,h8⟩
  have hk:k<args'.toList.length:=(List.getElem?_eq_some_iff.1 (by simpa using h7)).1
  rw [Array.getElem?_append_left (by simpa using hk)]
  simpa using h7
 obtain ⟨m,hm⟩:=hC c none _ S q hq (hf3 c hc)
 obtain ⟨h7,h8⟩:=hm 0 w.heap.size j { tmps:=args'++Array.replicate (fn.ntmps - args'.size) undef,defers:=[] } w none trivial hs hT (Nat.le_refl _) trivial
 refine ⟨h7,callsIn_wide.1 (callsIn_of_wp_marks (n:=0) hf1 hc trivial (wpIn_mono h8.wp ?_))⟩
 rintro e a' w' ⟨he,j',h9,h10,h11,h12⟩
 have hl:=leave_sound (F:=Fence.wide) (n:=0) hG (w0:=w) hvs h11 (Nat.le_refl _) a'.defers w' h12 h9 h10
 cases hqe:q.ex with
 | normal=>rw [he,hqe];exact hl
 | ret=>rw [he,hqe];exact hl
 | exit id=>rw [hqe] at hex;cases hex
theorem run_sound (hG:GoodOK G):∀ n,SoundCall G (run G.E n).call∧SoundCodeR G (run G.E n).code
 | 0=>⟨(fun f args S v S' h=>by cases h),(fun c rd T S r h=>by cases h)⟩
 | n+1=>by
  obtain ⟨h1,h2⟩:=run_sound hG n
  have h3:=code_sound hG h1 h2
  exact ⟨call_fn hG h3,h3⟩
end
end Go.Proofs.YtbieflpgjmgaiaaGreat
