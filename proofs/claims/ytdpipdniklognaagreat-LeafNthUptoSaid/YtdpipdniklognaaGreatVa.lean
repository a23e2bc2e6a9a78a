/- The program's LeafNth returns true for all numbers that describe a book and all lists of Ids, without an exception and without changing its arguments: a part of the proof. -/
import Derived.RangeFuncLeaves
import Derived.OrdersIn
import Derived.Laws.CopyRow
import Derived.Laws.Cells
import Derived.MapKept
import Derived.RangeFuncRecord
import Derived.IntWalk
set_option linter.all false
/- A trie with natural numbers as keys: the evaluator's memory and frames lie in it. -/
set_option maxRecDepth 100000
namespace Go.Proofs.YtdpipdniklognaaGreat
theorem yl (n:Nat):Int.ofNat n=n:=rfl
theorem ym (n:Nat):n≤n:=Nat.le_refl n
theorem yn {n m k:Nat}:n≤m→m≤k→n≤k:=Nat.le_trans
theorem yo {n m k:Nat}:n<m→m≤k→n<k:=Nat.lt_of_lt_of_le
theorem yu (n:Nat):0≤n:=Nat.zero_le n
theorem yw (a b:Bool):((a&&b)=true)=(a=true∧b=true):=Bool.and_eq_true a b
section
noncomputable section
inductive Tr (α : Type) where
 | nil
 | node (v:Option α) (l r:Tr α)
namespace Tr
variable {α : Type}
def get (t:Tr α) (n:Nat):Option α :=
 Tr.rec (motive:=fun _=>Nat→Option α) (fun _=>none) (fun v _ _ gl gr n=>Bool.rec (Bool.rec (gr (Nat.pred (Nat.div n 2))) (gl (Nat.div n 2)) (Nat.beq (Nat.mod n 2) 1)) v (Nat.beq n 0)) t n
def single (f n:Nat) (x : α):Tr α :=
 Nat.rec (motive:=fun _=>Nat→Tr α) (fun _=>.node (some x) .nil .nil)
  (fun _ g n=>Bool.rec (Bool.rec (.node none .nil (g (Nat.pred (Nat.div n 2)))) (.node none (g (Nat.div n 2)) .nil) (Nat.beq (Nat.mod n 2) 1)) (.node (some x) .nil .nil) (Nat.beq n 0)) f n
def set (t:Tr α) (n:Nat) (x : α):Tr α :=
 Tr.rec (motive:=fun _=>Nat→Tr α) (fun n=>single n n x)
  (fun v l r sl sr n=>Bool.rec (Bool.rec (.node v l (sr (Nat.pred (Nat.div n 2)))) (.node v (sl (Nat.div n 2)) r) (Nat.beq (Nat.mod n 2) 1)) (.node (some x) l r) (Nat.beq n 0)) t n
theorem zdh {β : Type} (a b c : β) (x y:Bool):(Bool.rec (motive:=fun _=> β) (Bool.rec (motive:=fun _=> β) a b x) c y)=bif y then c else bif x then b else a:=by
 cases x <;> cases y <;> rfl
theorem get_nil (n:Nat):(Tr.nil:Tr α).get n=none:=rfl
theorem z3B (v:Option α) (l r:Tr α) (n:Nat):(Tr.node v l r).get n=bif Nat.beq n 0 then v else bif Nat.beq (n % 2) 1 then l.get (n / 2) else r.get (n / 2 - 1) :=
 zdh (r.get (n / 2 - 1)) (l.get (n / 2)) v (Nat.beq (n % 2) 1) (Nat.beq n 0)
theorem zd9 (n:Nat) (x : α):single 0 n x = .node (some x) .nil .nil:=rfl
theorem zda (f n:Nat) (x : α):single (f+1) n x=bif Nat.beq n 0 then .node (some x) .nil .nil else bif Nat.beq (n % 2) 1 then .node none (single f (n / 2) x) .nil else .node none .nil (single f (n / 2 - 1) x) :=
 zdh (β :=Tr α) (.node none .nil (single f (n / 2 - 1) x)) (.node none (single f (n / 2) x) .nil) (.node (some x) .nil .nil) (Nat.beq (n % 2) 1) (Nat.beq n 0)
theorem zmP (n:Nat) (x : α):(Tr.nil:Tr α).set n x=single n n x:=rfl
theorem zkf (v:Option α) (l r:Tr α) (n:Nat) (x : α):(Tr.node v l r).set n x=bif Nat.beq n 0 then .node (some x) l r else bif Nat.beq (n % 2) 1 then .node v (l.set (n / 2) x) r else .node v l (r.set (n / 2 - 1) x) :=
 zdh (β :=Tr α) (.node v l (r.set (n / 2 - 1) x)) (.node v (l.set (n / 2) x) r) (.node (some x) l r) (Nat.beq (n % 2) 1) (Nat.beq n 0)
theorem beq_def (a b:Nat):Nat.beq a b=decide (a=b):=by
 rw [Bool.eq_iff_iff];simp
theorem z6F:∀ (f n m:Nat) (x : α),n≤f→(single f n x).get m=if m=n then some x else none
 | 0,n,m,x,h=>by
  obtain rfl:n=0:=by omega
  simp only [zd9,z3B,get_nil,beq_def]
  by_cases hm:m=0 <;> simp [hm]
 | f+1,n,m,x,h=>by
  simp only [zda,beq_def]
  by_cases hn:n=0
  ·subst hn
   simp only [decide_true,cond_true,z3B,get_nil,beq_def]
   by_cases hm:m=0 <;> simp [hm]
  ·by_cases hp:n % 2=1
   ·simp only [hn,decide_false,cond_false,hp,decide_true,cond_true,z3B,get_nil,beq_def]
    rw [z6F f (n / 2) (m / 2) x (by omega)]
    by_cases hm:m=0
    ·simp [hm,show ¬ 0=n from fun h=>hn h.symm]
    ·by_cases hq:m % 2=1
     ·simp only [hm,decide_false,cond_false,hq,decide_true,cond_true]
      by_cases he:m=n
      ·simp [he]
      ·simp [he,show ¬ m / 2=n / 2 by omega]
     ·simp [hm,hq,show ¬ m=n by omega]
   ·simp only [hn,decide_false,cond_false,hp,z3B,get_nil,beq_def]
    rw [z6F f (n / 2 - 1) (m / 2 - 1) x (by omega)]
    by_cases hm:m=0
    ·simp [hm,show ¬ 0=n from fun h=>hn h.symm]
    ·by_cases hq:m % 2=1
     ·simp [hm,hq,show ¬ m=n by omega]
     ·simp only [hm,decide_false,cond_false,hq]
      by_cases he:m=n
      ·simp [he]
      ·simp [he,show ¬ m / 2 - 1=n / 2 - 1 by omega]
theorem get_set:∀ (t:Tr α) (n m:Nat) (x : α),(t.set n x).get m=if m=n then some x else t.get m
 | .nil,n,m,x=>by rw [zmP,z6F n n m x (ym _),get_nil]
 | .node v l r,n,m,x=>by
  simp only [zkf,beq_def]
  by_cases hn:n=0
  ·subst hn
   simp only [decide_true,cond_true,z3B,get_nil,beq_def]
   by_cases hm:m=0 <;> simp [hm]
  ·by_cases hp:n % 2=1
   ·simp only [hn,decide_false,cond_false,hp,decide_true,cond_true,z3B,get_nil,beq_def]
    rw [get_set l (n / 2) (m / 2) x]
    by_cases hm:m=0
    ·simp [hm,show ¬ 0=n from fun h=>hn h.symm]
    ·by_cases hq:m % 2=1
     ·simp only [hm,decide_false,cond_false,hq,decide_true,cond_true]
      by_cases he:m=n
      ·simp [he]
      ·simp [he,show ¬ m / 2=n / 2 by omega]
     ·simp [hm,hq,show ¬ m=n by omega]
   ·simp only [hn,decide_false,cond_false,hp,z3B,get_nil,beq_def]
    rw [get_set r (n / 2 - 1) (m / 2 - 1) x]
    by_cases hm:m=0
    ·simp [hm,show ¬ 0=n from fun h=>hn h.symm]
    ·by_cases hq:m % 2=1
     ·simp [hm,hq,show ¬ m=n by omega]
     ·simp only [hm,decide_false,cond_false,hq]
      by_cases he:m=n
      ·simp [he]
      ·simp [he,show ¬ m / 2 - 1=n / 2 - 1 by omega]
end Tr
end
noncomputable section
structure Fr where
 n:Nat
 t:Tr Value
inductive Yg where
 | cells (c:List Value) (elem:TypeId)
 | map (es:List (Value×Value))
 | loop (st:LoopState) (pending:Option Code) (T:Fr) (params:List Tmp) (assign body:Code)
 | nilIter
 | strIter (s:ByteArray) (pos:Nat)
 | dead
structure St where
 heap:Tr Yg
 size:Nat
 low:Nat
structure LTy where
 desc:TypeDesc
 size:Nat
 bytes:Nat
 zero:Value
 plain:Bool
 agg:Bool
structure Env where
 ti:Tr LTy
 fns:Tr Func
 hook:Option Nat:=none
 rom:Tr (List Value×TypeId):=.nil
 sort:Option Nat:=none
 ins:Option (Nat×TypeId):=none
 orcs:List Nat:=[]
 orc:Nat→List Value→St→Option Value:=fun _ _ _=>none
 lks:List Nat:=[]
 lkf:Nat→List Value→St→Option (Nat×List Value×TypeId):=fun _ _ _=>none
def ob {α β : Type} (x:Option α) (f : α → Option β):Option β :=Option.rec none f x
def gd {α : Type} (c:Bool) (x:Option α):Option α :=Bool.rec none x c
def bf {α : Type} (c:Bool) (x y : α) : α :=Bool.rec y x c
def Fr.ev (T:Fr) (x:Operand):Option Value :=
 Operand.rec (fun t=>T.t.get t) (fun v=>some v) (fun _=>none) (fun f=>some (.func (.func f) #[] #[])) x
def Fr.put (T:Fr) (d:Option Tmp) (v:Value):Option Fr :=
 Option.rec (some T) (fun d=>gd (Nat.blt d T.n) (some ⟨T.n,T.t.set d v⟩)) d
def Fr.evs (T:Fr) (l:List Operand):Option (List Value) :=
 List.rec (some []) (fun x _ r=>ob (T.ev x) fun v=>ob r fun vs=>some (v::vs)) l
def St.new (S:St) (o:Yg):St:=⟨S.heap.set S.size o,Nat.succ S.size,S.low⟩
def St.put (S:St) (b:Nat) (o:Yg):St:=⟨S.heap.set b o,S.size,Nat.min b S.low⟩
def zjg (o:Yg):Option (List Value×TypeId):=Yg.rec (fun c e=>some (c,e)) (fun _=>none) (fun _ _ _ _ _ _=>none) none (fun _ _=>none) none o
def z8x (o:Yg):Option (List (Value×Value)):=Yg.rec (fun _ _=>none) (fun es=>some es) (fun _ _ _ _ _ _=>none) none (fun _ _=>none) none o
def St.cells (S:St) (b:Nat):Option (List Value×TypeId):=ob (S.heap.get b) zjg
def cut (c:List Value) (off n:Nat):Option (List Value):=gd (Nat.ble (Nat.add off n) c.length) (some ((c.drop off).take n))
def paste (c:List Value) (off:Nat) (vs:List Value):Option (List Value) :=
 gd (Nat.ble (Nat.add off vs.length) c.length) (some (c.take off++vs++c.drop (Nat.add off vs.length)))
def scalar:Value→Bool
 | .agg _=>false
 | .tuple _=>false
 | _=>true
def z4c:TypeDesc→Bool
 | .struct _=>true
 | .array _ _=>true
 | _=>false
def z3b {α : Type} (a:Addr) (x:Option α):Option α :=Option.rec x (fun _=>none) a.spot
def rdc (E:Env) (S:St) (b:Nat):Option (List Value×TypeId):=Option.rec (S.cells b) (fun c=>some c) (E.rom.get b)
def rda (E:Env) (S:St) (a:Addr):Option (List Value×TypeId):=Option.rec (rdc E S a.block) (fun _=>Option.rec (S.cells a.block) (fun _=>none) (E.rom.get a.block)) a.spot
def St.load (S:St) (E:Env) (a:Addr) (n:Nat):Option (List Value):=z3b a (ob (rdc E S a.block) fun c=>cut c.1 a.off n)
def St.store (S:St) (a:Addr) (vs:List Value):Option St :=
 z3b a (ob (S.cells a.block) fun c=>gd (vs.all scalar) (ob (paste c.1 a.off vs) fun c'=>some (S.put a.block (.cells c' c.2))))
def z0e (E:Env) (t:TypeId) (a:Addr) (S:St):Option Value :=
 ob (E.ti.get t) fun i=>bf i.agg (ob (S.load E a i.size) fun c=>some (.agg c.toArray)) (z3b a (ob (rdc E S a.block) fun c=>c.1[a.off]?))
def z0Y (E:Env) (t:TypeId) (a:Addr) (v:Value) (S:St):Option St :=
 ob (E.ti.get t) fun i=>gd (Nat.beq v.cells.size i.size) (S.store a v.cells.toList)
def ptr (b off:Nat):Value:=.pointer (some ⟨b,off,none⟩)
def addrOf:Value→Option Addr
 | .pointer a=>a
 | _=>none
def z3l:Value→Option Bool
 | .bool b=>some b
 | _=>none
def z3N:Value→Option Nat
 | .int _ (.ofNat n)=>some n
 | _=>none
def z1F:Value→Option (Option Addr×Nat×Nat)
 | .slice a n c=>some (a,n,c)
 | _=>none
def zog:Value→Option (Array Value)
 | .agg cs=>some cs
 | _=>none
def z2H:TypeDesc→Option TypeId
 | .slice e=>some e
 | _=>none
def z6o:TypeDesc→Option (Array Field)
 | .struct fs=>some fs
 | _=>none
def z1s {α : Type}:Sem α → Option α
 | .pure a=>some a
 | _=>none
def zeros (z:List Value) (n:Nat):List Value:=Nat.rec [] (fun _ l=>z++l) n
def z9n (place:Nat→Option (Nat×Nat)) (cells:List Value):List (Nat×Value)→Option (List Value)
 | []=>some cells
 | p::rest=>ob (place p.1) fun q=>gd (Nat.beq p.2.cells.size q.2) (ob (paste cells q.1 p.2.cells.toList) fun c=>z9n place c rest)
def z3D (T:Fr) (l:List (Nat×Operand)):Option (List (Nat×Value)) :=
 List.rec (some []) (fun p _ r=>ob (T.ev p.2) fun v=>ob r fun vs=>some ((p.1,v)::vs)) l
def z3w (E:Env) (fs:Array Field) (i:Nat):Option (Nat×Nat):=ob fs.toList[i]? fun f=>ob (E.ti.get f.type) fun g=>some (f.offset,g.size)
def z2P:Value→Value→Option Bool
 | .int k a,.int l b=>gd (decide (k=l)) (some (a==b))
 | .bool a,.bool b=>some (a==b)
 | .string a,.string b=>some (a==b)
 | _,_=>none
def zf8:Option Addr→Option Addr→Option Bool
 | none,b=>some b.isNone
 | a,none=>some a.isNone
 | _,_=>none
def zis:Option Nat→Option Nat→Option Bool
 | none,b=>some b.isNone
 | a,none=>some a.isNone
 | _,_=>none
def zy:TypeDesc→Value→Bool
 | .int k,.int l _=>decide (k=l)
 | .string,.string _=>true
 | .bool,.bool _=>true
 | _,_=>false
def z0r (E:Env):List Field→Nat→List Value→List Value→Option Bool
 | [],_,[],[]=>some true
 | f::fs,i,x::a,y::b=>ob (E.ti.get f.type) fun ft=>gd (Nat.beq f.offset i&&zy ft.desc x) (ob (z2P x y) fun p=>ob (z0r E fs (Nat.succ i) a b) fun q=>some (p&&q))
 | _,_,_,_=>none
def z11 (E:Env) (i:LTy) (x y:Value):Option Bool:=match i.desc,x,y with
 | .bool,.bool a,.bool b=>some (a==b)
 | .pointer _,.pointer a,.pointer b=>zf8 a b
 | .slice _,.slice a _ _,.slice b _ _=>zf8 a b
 | .map _ _,.map a,.map b=>zis a b
 | .func _ _ _,.nilFunc,.nilFunc=>some true
 | .func _ _ _,.nilFunc,.func _ _ _=>some false
 | .func _ _ _,.func _ _ _,.nilFunc=>some false
 | .struct fs,.agg a,.agg b=>gd i.plain (z0r E fs.toList 0 a.toList b.toList)
 | _,_,_=>none
def z2e (E:Env) (t:TypeId) (x y:Value):Option Bool:=ob (E.ti.get t) fun i=>z11 E i x y
def zr5 (E:Env) (op:BinOp) (t:TypeId) (x y:Value):Option Value:=match op with
 | .eql=>ob (z2e E t x y) fun b=>some (.bool b)
 | .neq=>ob (z2e E t x y) fun b=>some (.bool !b)
 | _=>none
def z1B:Value→Nat
 | .int _ _=>0
 | .string _=>1
 | _=>2
def zY (E:Env) (op:BinOp) (t:TypeId) (x y:Value):Option Value :=
 bf (Nat.blt (z1B x) 2&&Nat.beq (z1B x) (z1B y)) (z1s (binOp op t x y)) (zr5 E op t x y)
def unL (op:UnOp) (x:Value):Option Value:=match x with
 | .int _ _=>z1s (Op.unary op x)
 | .bool _=>z1s (Op.unary op x)
 | _=>none
def z97 (d:TypeDesc) (x:Value):Option Value:=match d,x with
 | .int k,.int _ n=>some (.int k (k.wrap n))
 | .string,.string s=>some (.string s)
 | _,_=>none
def z2v (T:Fr) (d:Nat) (x:Option Operand):Option Nat:=Option.rec (some d) (fun x=>ob (T.ev x) z3N) x
def z6B (elem:TypeId) (e:LTy) (n c:Nat) (S:St):Option (Value×St) :=
 gd (Nat.ble n c&&(Nat.ble c 1048576&&(Nat.ble e.bytes 4096&&(Nat.blt 0 e.size&&Nat.beq e.zero.cells.size e.size))))
  (some (.slice (some ⟨S.size,0,none⟩) n c,S.new (.cells (zeros e.zero.cells.toList c) elem)))
def z2p (E:Env) (t:TypeId) (len cap:Value) (S:St):Option (Value×St) :=
 ob (E.ti.get t) fun i=>ob (z2H i.desc) fun elem=>ob (E.ti.get elem) fun e=>ob (z3N len) fun n=>ob (z3N cap) fun c=>z6B elem e n c S
def z0g (a:Addr) (l size c:Nat):Addr :=
 Option.rec (bf (Nat.beq c l) a ⟨a.block,a.off+l*size,none⟩) (fun _=>⟨a.block,a.off+l*size,some 0⟩) a.spot
def z3i (S:St) (elem:TypeId) (a:Option Addr):Bool:=Option.rec true (fun a=>Option.rec true (fun _=>Option.rec false (fun c=>Nat.beq c.2 elem) (S.cells a.block)) a.spot) a
def z8a (e:LTy) (a:Option Addr) (n c:Nat) (T:Fr) (lo hi mx:Option Operand):Option Value :=
 ob (z2v T 0 lo) fun l=>ob (z2v T n hi) fun h=>gd (Nat.ble l h&&Nat.ble h c)
  (Option.rec
   (some (Option.rec (.slice none 0 0) (fun a=>.slice (some (z0g a l e.size c)) (Nat.sub h l) (Nat.sub c l)) a))
   (fun mx=>ob (ob (T.ev mx) z3N) fun m=>gd (hi.isSome&&(Nat.ble h m&&Nat.ble m c))
    (some (Option.rec (.slice none 0 0) (fun a=>.slice (some ⟨a.block,a.off+bf (Nat.beq m l) 0 (l*e.size),none⟩) (Nat.sub h l) (Nat.sub m l)) a))) mx)
def zrL (s:ByteArray) (T:Fr) (lo hi mx:Option Operand):Option Value :=
 gd mx.isNone (ob (z2v T 0 lo) fun l=>ob (z2v T s.size hi) fun h=>gd (Nat.ble l h&&Nat.ble h s.size) (some (.string (s.extract l h))))
def z2d (E:Env) (t:TypeId) (x:Value) (T:Fr) (lo hi mx:Option Operand) (S:St):Option Value :=
 ob (E.ti.get t) fun i=>match i.desc,x with
  | .string,.string s=>zrL s T lo hi mx
  | .slice elem,.slice a n c=>ob (E.ti.get elem) fun e=>gd (z3i S elem a) (z8a e a n c T lo hi mx)
  | _,_=>none
def z4B (E:Env) (d:TypeDesc) (x:Value) (k:Nat):Option Value:=match d,x with
 | .slice elem,.slice (some a) n _=>ob (E.ti.get elem) fun e=>gd (Nat.blt k n) (some (ptr a.block (a.off+k*e.size)))
 | .array n elem,.pointer (some a)=>ob (E.ti.get elem) fun e=>z3b a (gd (Nat.blt k n) (some (ptr a.block (a.off+k*e.size))))
 | _,_=>none
def z0P (E:Env) (t:TypeId) (x ix:Value):Option Value :=
 ob (z3N ix) fun k=>ob (E.ti.get t) fun i=>z4B E i.desc x k
def zbM (E:Env) (t:TypeId) (cs:List Value) (off:Nat):Option Value :=
 ob (E.ti.get t) fun i=>bf i.agg (ob (cut cs off i.size) fun c=>some (.agg c.toArray)) cs[off]?
def zfa (E:Env) (d:TypeDesc) (x:Value) (k:Nat):Option Value:=match d,x with
 | .array n elem,.agg cs=>ob (E.ti.get elem) fun e=>gd (Nat.blt k n) (zbM E elem cs.toList (k*e.size))
 | .string,.string s=>ob s[k]? fun b=>some (.int .u8 b.toNat)
 | _,_=>none
def z8N (E:Env) (t:TypeId) (x ix:Value):Option Value :=
 ob (z3N ix) fun k=>ob (E.ti.get t) fun i=>zfa E i.desc x k
def z1n (E:Env) (t:TypeId) (x:Value) (f:Nat):Option Value :=
 ob (addrOf x) fun a=>ob (E.ti.get t) fun i=>ob (z6o i.desc) fun fs=>z3b a (ob (z3w E fs f) fun q =>
  gd (Nat.blt 0 q.2) (some (ptr a.block (a.off+q.1))))
def z9U (E:Env) (t:TypeId) (x:Value) (f:Nat):Option Value :=
 ob (zog x) fun cs=>ob (E.ti.get t) fun i=>ob (z6o i.desc) fun fs=>ob fs.toList[f]? fun g=>zbM E g.type cs.toList g.offset
def z0T (k:Value):List (Value×Value)→Nat→Option (Option (Nat×Value))
 | [],_=>some none
 | p::es,i=>ob (z2P k p.1) fun b=>bf b (some (some (i,p.2))) (z0T k es (i+1))
def z9M:Value→Bool
 | .agg _=>true
 | _=>false
def z6C (E:Env):List Field→Nat→List Value→Bool
 | [],_,[]=>true
 | f::fs,i,x::a=>Option.rec false (fun ft=>Nat.beq f.offset i&&(zy ft.desc x&&z6C E fs (Nat.succ i) a)) (E.ti.get f.type)
 | _,_,_=>false
def z3A (E:Env) (i:LTy) (k:Value):Bool:=match i.desc,k with
 | .struct fs,.agg cs=>i.plain&&z6C E fs.toList 0 cs.toList
 | _,_=>false
def z2K (E:Env) (i:LTy) (k:Value):Bool:=bf (z9M k) (z3A E i k) (zy i.desc k)
def z5k (E:Env) (t:TypeId) (k:Value):List (Value×Value)→Nat→Option (Option (Nat×Value))
 | [],_=>some none
 | p::es,i=>ob (z2e E t k p.1) fun b=>bf b (some (some (i,p.2))) (z5k E t k es (i+1))
def z7v (E:Env) (t:TypeId) (k:Value) (es:List (Value×Value)):Option (Option (Nat×Value)):=bf (z9M k) (z5k E t k es 0) (z0T k es 0)
def mapOf (S:St):Value→Option (List (Value×Value))
 | .map none=>some []
 | .map (some r)=>ob (S.heap.get r) z8x
 | _=>none
def mapD:TypeDesc→Option (TypeId×TypeId)
 | .map k e=>some (k,e)
 | _=>none
def z0n (E:Env) (t:TypeId) (x k:Value) (ok:Bool) (S:St):Option Value :=
 ob (E.ti.get t) fun i=>ob (mapD i.desc) fun d=>ob (E.ti.get d.1) fun kt=>ob (E.ti.get d.2) fun et=>ob (mapOf S x) fun es =>
  gd (z2K E kt k) (ob (z7v E d.1 k es) fun r =>
   some (bf ok (.tuple #[(r.map (·.2)).getD et.zero,.bool r.isSome]) ((r.map (·.2)).getD et.zero)))
def z3M:Value→Option Nat
 | .map r=>r
 | _=>none
def z2Y (es:List (Value×Value)) (k v:Value) (f:Option (Nat×Value)):List (Value×Value):=Option.rec (es++[(k,v)]) (fun q=>es.set q.1 (k,v)) f
def z1Y (E:Env) (t:TypeId) (m k v:Value) (S:St):Option St :=
 ob (E.ti.get t) fun i=>ob (mapD i.desc) fun d=>ob (E.ti.get d.1) fun kt=>ob (z3M m) fun r=>ob (ob (S.heap.get r) z8x) fun es =>
  gd (z2K E kt k) (ob (z7v E d.1 k es) fun f =>
   some (S.put r (.map (z2Y es k v f))))
def z7f (E:Env) (t:TypeId) (m k:Value) (S:St):Option (Value×St) :=
 ob (E.ti.get t) fun i=>ob (mapD i.desc) fun d=>ob (E.ti.get d.1) fun kt=>ob (E.ti.get d.2) fun et=>ob (z3M m) fun r=>ob (ob (S.heap.get r) z8x) fun es =>
  gd (z2K E kt k) (ob (z7v E d.1 k es) fun f =>
   Option.rec (some (.tuple #[et.zero,.int .i64 es.length],S.put r (.map (es++[(k,et.zero)])))) (fun q=>some (.tuple #[q.2,.int .i64 q.1],S.put r (.map es))) f)
def z2C (m s v:Value) (S:St):Option St :=
 ob (z3M m) fun r=>ob (ob (S.heap.get r) z8x) fun es=>ob (z3N s) fun i=>ob es[i]? fun p=>some (S.put r (.map (es.set i (p.1,v))))
def St.spent (S:St) (a:Addr):St:=Option.rec S (fun _=>S.put a.block .dead) a.spot
def z0W (E:Env) (e:LTy) (elem:TypeId) (a:Addr) (n c:Nat) (new:List Value) (k:Nat) (S:St):Option (Value×St) :=
 ob (rda E S a) fun cs=>gd (Option.rec true (fun _=>Nat.beq cs.2 elem) a.spot)
  (bf (Nat.ble (Nat.add n k) c)
   (ob (S.cells a.block) fun cs=>ob (paste cs.1 (a.off+n*e.size) new) fun cs'=>some (.slice (some a) (Nat.add n k) c,S.put a.block (.cells cs' cs.2)))
   (ob (cut cs.1 a.off (n*e.size)) fun old=>some (.slice (some ⟨S.size,0,some 0⟩) (Nat.add n k) (Nat.add n k),(S.spent a).new (.cells (old++new) elem))))
def z2a (E:Env) (e:LTy) (elem:TypeId) (s:Value) (new:List Value) (k:Nat) (S:St):Option (Value×St) :=
 ob (z1F s) fun q=>bf (Nat.beq k 0) (some (s,S))
  (gd (Nat.ble (Nat.add q.2.1 k) 1048576&&(Nat.ble e.bytes 4096&&(Nat.blt 0 e.size&&(new.all scalar&&(Nat.beq e.zero.cells.size e.size&&Nat.beq new.length (k*e.size))))))
   (Option.rec (gd (Nat.beq q.2.1 0&&Nat.beq q.2.2 0) (some (.slice (some ⟨S.size,0,some 0⟩) k k,S.new (.cells new elem))))
    (fun a=>z0W E e elem a q.2.1 q.2.2 new k S) q.1))
def zf4 (d:TypeDesc) (x:Value) (S:St):Option Value:=match d,x with
 | .string,.string s=>some (.int .i64 s.size)
 | .slice _,.slice _ n _=>some (.int .i64 n)
 | .map _ _,m=>ob (mapOf S m) fun es=>some (.int .i64 es.length)
 | .array n _,_=>some (.int .i64 n)
 | _,_=>none
def z0E (E:Env) (size:Nat) (n:Nat) (x:Value) (S:St):Option (List Value):=match x with
 | .slice (some a) _ _=>ob (rdc E S a.block) fun c=>cut c.1 a.off (n*size)
 | .slice none _ _=>gd (Nat.beq n 0) (some [])
 | .string s=>some ((s.data.toList.take n).map fun b=>.int .u8 b.toNat)
 | _=>none
def z2R:Value→Option Nat
 | .slice _ n _=>some n
 | .string s=>some s.size
 | _=>none
def z8G:TypeDesc→Bool
 | .int _=>true
 | _=>false
def zio:TypeDesc→Bool
 | .slice _=>true
 | .string=>true
 | _=>false
def zia (a:Option Addr):Bool:=(a.bind (·.spot)).isNone
def zjs (E:Env) (ts:List TypeId) (args:List Value) (S:St):Option (Value×St) :=
 ob ts.head? fun t=>ob args.head? fun x=>ob (E.ti.get t) fun i=>ob (zf4 i.desc x S) fun v=>some (v,S)
def zpY (E:Env) (ts:List TypeId) (args:List Value) (S:St):Option (Value×St) :=
 ob ts.head? fun t=>ob args.head? fun x=>ob (E.ti.get t) fun i=>ob (z2H i.desc) fun _=>ob (z1F x) fun q =>
  gd (zia q.1) (some (.int .i64 q.2.2,S))
def z4L (E:Env) (ts:List TypeId) (args:List Value) (S:St):Option (Value×St) :=
 ob ts[0]? fun t=>ob ts[1]? fun u=>ob args[0]? fun s=>ob args[1]? fun x=>ob (E.ti.get t) fun i=>ob (E.ti.get u) fun ui=>ob (z2H i.desc) fun elem =>
  ob (E.ti.get elem) fun e=>bf (z8G ui.desc)
   (ob (z3N x) fun k=>gd (Nat.ble k 1048576&&Nat.ble e.bytes 4096) (z2a E e elem s (zeros e.zero.cells.toList k) k S))
   (gd (zio ui.desc) (ob (z2R x) fun k=>ob (z0E E e.size k x S) fun new=>z2a E e elem s new k S))
def zmj (E:Env) (ts:List TypeId) (args:List Value) (S:St):Option (Value×St) :=
 ob ts[0]? fun t=>ob args[0]? fun d=>ob args[1]? fun x=>ob (E.ti.get t) fun i=>ob (z2H i.desc) fun elem=>ob (E.ti.get elem) fun e =>
  ob (z1F d) fun q=>ob (z2R x) fun k=>ob (z0E E e.size (Nat.min k q.2.1) x S) fun cs =>
   Option.rec (gd (Nat.beq q.2.1 0) (some (.int .i64 0,S)))
    (fun a=>ob (S.cells a.block) fun c=>gd (cs.all scalar) (ob (paste c.1 a.off cs) fun c'=>some (.int .i64 (Nat.min k q.2.1),S.put a.block (.cells c' c.2)))) q.1
def zjt (E:Env) (ts:List TypeId) (args:List Value) (S:St):Option (Value×St) :=
 ob ts.head? fun t=>ob args.head? fun x=>ob (E.ti.get t) fun i=>ob (z2H i.desc) fun elem=>ob (z1F x) fun q =>
  bf (Nat.beq q.2.1 0) (some (.tuple #[],S)) (ob (E.ti.get elem) fun e=>ob q.1 fun a=>ob (S.cells a.block) fun c =>
   gd (e.zero.cells.toList.all scalar) (ob (paste c.1 a.off (zeros e.zero.cells.toList q.2.1)) fun c'=>some (.tuple #[],S.put a.block (.cells c' c.2))))
def zjr (args:List Value) (S:St):Option (Value×St):=match args with
 | [.int k a,.int _ b]=>some (.int k (if b > a then b else a),S)
 | _=>none
def zjq (args:List Value) (S:St):Option (Value×St):=match args with
 | [.int k a,.int _ b]=>some (.int k (if b<a then b else a),S)
 | _=>none
def z2O (E:Env) (b:Builtin) (ts:List TypeId) (args:List Value) (S:St):Option (Value×St):=match b with
 | .len=>zjs E ts args S
 | .cap=>zpY E ts args S
 | .append=>z4L E ts args S
 | .copy=>zmj E ts args S
 | .clear=>zjt E ts args S
 | .max=>zjr args S
 | .min=>zjq args S
 | _=>none
abbrev z1f:=Nat→List Value→St→Option (Value×St)
inductive LExit where
 | normal
 | exit (id:Nat)
 | ret
structure Res where
 ex:LExit
 T:Fr
 S:St
abbrev z15:=Code→Option Nat→Fr→St→Option Res
def z4K:List Tmp→List Value→Fr→Option Fr
 | [],[],T=>some T
 | t::ts,v::vs,T=>ob (T.put (some t) v) fun T'=>z4K ts vs T'
 | _,_,_=>none
def z3e (o:Yg):Option (LoopState×Option Code×Fr×List Tmp×Code×Code) :=
 Yg.rec (fun _ _=>none) (fun _=>none) (fun st pd T ps a b=>some (st,pd,T,ps,a,b)) none (fun _ _=>none) none o
def znD:LoopState→Bool
 | .ready=>true
 | _=>false
def z9L:LoopState→Bool
 | .busy=>true
 | _=>false
def zk:LExit→Bool
 | .normal=>true
 | _=>false
def codeOf:LExit→Option Code
 | .normal=>none
 | .ret=>some .ret
 | .exit id=>some (.exit id)
def z6U (codeF:z15) (l:Nat) (args:List Value) (S:St):Option (Value×St) :=
 ob (ob (S.heap.get l) z3e) fun q=>ob (z4K q.2.2.2.1 args q.2.2.1) fun T0=>ob (codeF q.2.2.2.2.1 (some l) T0 S) fun r1 =>
  gd (zk r1.ex) (ob (ob (r1.S.heap.get l) z3e) fun q1=>gd (znD q1.1)
   (ob (codeF q.2.2.2.2.2 (some l) r1.T (r1.S.put l (.loop .busy q1.2.1 q1.2.2.1 q1.2.2.2.1 q1.2.2.2.2.1 q1.2.2.2.2.2))) fun r2 =>
    ob (ob (r2.S.heap.get l) z3e) fun q2 =>
     some (.bool (zk r2.ex),r2.S.put l (.loop (bf (zk r2.ex) .ready .done) (codeOf r2.ex) q2.2.2.1 q2.2.2.2.1 q2.2.2.2.2.1 q2.2.2.2.2.2))))
def zji (callF:z1f) (codeF:z15) (fn:Fn) (first:List Value) (cap:List Value) (args:List Value) (S:St):Option (Value×St):=match fn with
 | .func g=>callF g (first++(args++cap)) S
 | .yield l=>gd (first.isEmpty&&cap.isEmpty) (z6U codeF l args S)
 | _=>none
def z4J (callF:z1f) (codeF:z15) (f:Value) (args:List Value) (S:St):Option (Value×St):=match f with
 | .func fn first cap=>zji callF codeF fn first.toList cap.toList args S
 | _=>none
def zG (S:St) (v:Option Value):Option (Value×St):=ob v fun v=>some (v,S)
def zlS (T:Fr) (c a b:Operand):Option Value:=ob (ob (T.ev c) z3l) fun t=>bf t (T.ev a) (T.ev b)
def zdn (E:Env) (t:TypeId) (S:St):Option (Value×St):=ob (E.ti.get t) fun i=>some (ptr S.size 0,S.new (.cells i.zero.cells.toList t))
def znl (T:Fr) (t:TypeId) (x:Operand) (S:St):Option (Value×St):=ob (T.ev x) fun v=>some (ptr S.size 0,S.new (.cells v.cells.toList t))
def zi3 (E:Env) (T:Fr) (t:TypeId) (parts:List (Nat×Operand)):Option Value :=
 ob (E.ti.get t) fun i=>ob (z3D T parts) fun ps=>match i.desc with
  | .struct fs=>ob (z9n (z3w E fs) i.zero.cells.toList ps) fun c=>some (.agg c.toArray)
  | .array _ elem=>ob (E.ti.get elem) fun e=>ob (z9n (fun k=>some (k*e.size,e.size)) i.zero.cells.toList ps) fun c=>some (.agg c.toArray)
  | _=>none
def z3X (E:Env) (T:Fr) (t:TypeId) (len:Nat) (parts:List (Nat×Operand)) (S:St):Option (Value×St) :=
 ob (E.ti.get t) fun i=>ob (z2H i.desc) fun elem=>ob (z3D T parts) fun ps=>ob (E.ti.get elem) fun e =>
  gd (Nat.ble (len*e.size) 16777216&&(Nat.blt 0 e.size&&Nat.beq e.zero.cells.size e.size))
   (ob (z9n (fun i=>some (i*e.size,e.size)) (zeros e.zero.cells.toList len) ps) fun c=>some (.slice (some ⟨S.size,0,none⟩) len len,S.new (.cells c elem)))
def zi2 (E:Env) (T:Fr) (t:TypeId) (a:Operand) (S:St):Option Value:=ob (ob (T.ev a) addrOf) fun p=>z0e E t p S
def zdm (E:Env) (T:Fr) (t:TypeId) (a x:Operand) (S:St):Option (Value×St) :=
 ob (ob (T.ev a) addrOf) fun p=>ob (T.ev x) fun v=>ob (z0Y E t p v S) fun S'=>some (undef,S')
def z4I (x:Value):Option Value:=match x with
 | .pointer (some a)=>some (.pointer (some a))
 | .func (.func f) a b=>some (.func (.func f) a b)
 | .func (.yield l) a b=>some (.func (.yield l) a b)
 | _=>none
def z9B (T:Fr) (fn:Fn) (first cap:List Operand):Option Value:=ob (T.evs first) fun a=>ob (T.evs cap) fun b=>match fn with
 | .func f=>some (.func (.func f) a.toArray b.toArray)
 | _=>none
def zbV (r:Option Operand) (S:St):Option (Value×St):=Option.rec (some (.map (some S.size),S.new (.map []))) (fun _=>none) r
def zeQ (E:Env) (callF:z1f) (codeF:z15) (T:Fr) (c:Call) (S:St):Option (Value×St) :=
 ob (T.evs c.args.toList) fun args=>match c.callee with
  | .builtin b=>z2O E b c.argTypes.toList args S
  | .value f=>ob (T.ev f) fun v=>z4J callF codeF v args S
  | .invoke _ _=>none
def zbW (T:Fr) (x:Operand) (i:Nat):Option Value:=ob (T.ev x) fun v=>match v with
 | .tuple vs=>vs.toList[i]?
 | _=>none
def z6x (E:Env) (t:TypeId) (x:Value) (S:St):Option (Value×St):=ob (E.ti.get t) fun i=>match i.desc,x with
 | .string,.string s=>some (ptr S.size 0,S.new (.strIter s 0))
 | .map _ _,.map none=>some (ptr S.size 0,S.new .nilIter)
 | _,_=>none
def zdr (o:Yg) (str:Bool) (b:Nat) (S:St):Option (Value×St):=match o,str with
 | .nilIter,false=>some (.tuple #[.bool false],S)
 | .strIter s pos,true=>bf (Nat.blt pos s.size)
   (some (.tuple #[.bool true,.int .i64 pos,.int .i32 (Utf8.decode s pos).1],S.put b (.strIter s (pos+(Utf8.decode s pos).2))))
   (some (.tuple #[.bool false],S))
 | _,_=>none
def z6Y (x:Value) (str:Bool) (S:St):Option (Value×St) :=
 ob (addrOf x) fun a=>gd (Nat.beq a.off 0) (z3b a (ob (S.heap.get a.block) fun o=>zdr o str a.block S))
def zR (E:Env) (callF:z1f) (codeF:z15) (T:Fr) (S:St) (o:Op):Option (Value×St):=match o with
 | .move x=>zG S (T.ev x)
 | .assign x=>zG S (T.ev x)
 | .pick c a b=>zG S (zlS T c a b)
 | .alloc t=>zdn E t S
 | .box t x=>znl T t x S
 | .build t parts=>zG S (zi3 E T t parts.toList)
 | .buildSlice t len parts=>z3X E T t len parts.toList S
 | .load t a=>zG S (zi2 E T t a S)
 | .store t a x=>zdm E T t a x S
 | .nilCheck x=>zG S (ob (T.ev x) z4I)
 | .binOp op t x y _=>zG S (ob (T.ev x) fun a=>ob (T.ev y) fun b=>zY E op t a b)
 | .unOp op _ x=>zG S (ob (T.ev x) fun a=>unL op a)
 | .convert src dst x=>zG S (ob (E.ti.get src) fun _=>ob (T.ev x) fun a=>ob (E.ti.get dst) fun i=>z97 i.desc a)
 | .makeFunc fn first cap=>zG S (z9B T fn first.toList cap.toList)
 | .makeMap _ r=>zbV r S
 | .makeSlice t l c=>ob (T.ev l) fun a=>ob (T.ev c) fun b=>z2p E t a b S
 | .slice t x lo hi mx=>zG S (ob (T.ev x) fun v=>z2d E t v T lo hi mx S)
 | .fieldAddr t x f=>zG S (ob (T.ev x) fun v=>z1n E t v f)
 | .field t x f=>zG S (ob (T.ev x) fun v=>z9U E t v f)
 | .indexAddr t x ix=>zG S (ob (T.ev x) fun v=>ob (T.ev ix) fun i=>z0P E t v i)
 | .index t x ix=>zG S (ob (T.ev x) fun v=>ob (T.ev ix) fun i=>z8N E t v i)
 | .lookup t x k ok=>zG S (ob (T.ev x) fun m=>ob (T.ev k) fun i=>z0n E t m i ok S)
 | .mapUpdate t m k v=>ob (T.ev m) fun m=>ob (T.ev k) fun k=>ob (T.ev v) fun v=>ob (z1Y E t m k v S) fun S'=>some (undef,S')
 | .mapEntry t m k=>ob (T.ev m) fun m=>ob (T.ev k) fun k=>z7f E t m k S
 | .entryStore _ m s v=>ob (T.ev m) fun m=>ob (T.ev s) fun s=>ob (T.ev v) fun v=>ob (z2C m s v S) fun S'=>some (undef,S')
 | .extract x i=>zG S (zbW T x i)
 | .range t x=>ob (T.ev x) fun v=>z6x E t v S
 | .next x str=>ob (T.ev x) fun v=>z6Y v str S
 | .call c=>zeQ E callF codeF T c S
 | _=>none
def z7X (ops:Array Oper) (T:Fr) (g:Nat×Bool):Option Bool :=
 Option.rec (some false) (fun d=>ob (T.t.get d) fun v=>some (Option.rec false (fun b=>b==g.2) (z3l v))) (ob ops.toList[g.1]? (·.dst))
def z7W (ops:Array Oper) (T:Fr) (g:Option (Nat×Bool)):Option Bool:=Option.rec (some true) (z7X ops T) g
def z3P (T:Fr) (d:Option Tmp) (r:Value×St):Option (Fr×St):=ob (T.put d r.1) fun T'=>some (T',r.2)
def zq (E:Env) (callF:z1f) (codeF:z15) (ops:Array Oper) (o:Oper) (T:Fr) (S:St):Option (Fr×St) :=
 ob (z7W ops T o.guard) fun b=>bf b (ob (zR E callF codeF T S o.op) (z3P T o.dst)) (z3P T o.dst (undef,S))
def z4P (E:Env) (callF:z1f) (codeF:z15) (ops:Array Oper) (l:List Oper):Fr→St→Option (Fr×St) :=
 List.rec (fun T S=>some (T,S)) (fun o _ ih T S=>ob (zq E callF codeF ops o T S) fun r=>ih r.1 r.2) l
def z1w (acc:List Nat):List Edge→Nat
 | []=>0
 | e::l=>bf (Region.binds .any e) ((2 ^ e.on ||| (acc[e.on]?).getD 0) ||| z1w acc l) (z1w acc l)
def z4M:List Oper→List Nat→List Nat
 | [],acc=>acc
 | o::l,acc=>z4M l (acc++[z1w acc o.after.toList])
def zbs (b:Nat):Nat→Bool
 | 0=>true
 | k+1=>b.testBit k&&zbs b k
def zad (i:Nat):List Nat→Bool
 | []=>true
 | b::l=>b.testBit i&&zad i l
def uni (bs:List Nat) (i:Nat):Bool:=zbs ((bs[i]?).getD 0) i&&zad i (bs.drop (i+1))
def z6I (bs:List Nat) (i k:Nat):Bool:=((bs[i]?).getD 0).testBit k||((bs[k]?).getD 0).testBit i
def zx (X:Nat):List Nat→Nat
 | []=>0
 | b::l=>bf (Nat.ble b X) (1+zx X l) 0
def z5p:Option Addr→List Nat
 | some a=>[a.block]
 | none=>[]
def z2t (T:Fr) (c:Call):Option (List Nat):=match c.callee with
 | .builtin .len=>match T.evs c.args.toList with
  | some [.slice _ _ _]=>some []
  | some [.string _]=>some []
  | _=>none
 | .builtin .append=>match T.evs c.args.toList with
  | some [.slice a _ _,.slice b _ _]=>some (z5p a++z5p b)
  | _=>none
 | _=>none
def zeu:Value→Option (List Nat)
 | .slice a _ _=>some (z5p a)
 | .string _=>some []
 | _=>none
def z3c:Value→Option (List Nat)
 | .map (some r)=>some [r]
 | .map none=>some []
 | _=>none
def zH (T:Fr):Op→Option (List Nat)
 | .load _ a=>ob (ob (T.ev a) addrOf) fun p=>some [p.block]
 | .store _ a _=>ob (ob (T.ev a) addrOf) fun p=>some [p.block]
 | .call c=>z2t T c
 | .next a _=>ob (ob (T.ev a) addrOf) fun p=>some [p.block]
 | .slice _ x _ _ _=>ob (T.ev x) zeu
 | .lookup _ x _ _=>ob (T.ev x) z3c
 | .mapUpdate _ m _ _=>ob (T.ev m) z3c
 | .mapEntry _ m _=>ob (T.ev m) z3c
 | .entryStore _ m _ _=>ob (T.ev m) z3c
 | _=>some []
def z1j (bs:List Nat) (r i X m k:Nat) (t:Option (List Nat)):Bool :=
 z6I bs i k||((Nat.ble r X && !((bs[k]?).getD 0).testBit m)||Option.rec false (fun l=>l.all fun b=>!Nat.beq b X) t)
def zaA (bs:List Nat) (r k:Nat) (t:Option (List Nat)) (l:List (Nat×Nat×Nat)):Bool:=l.all fun w=>z1j bs r w.1 w.2.1 w.2.2 k t
def zoT (t:TypeId) (o:Op):Bool:=match o with
 | .mapEntry t' _ _=>Nat.beq t t'
 | _=>false
def z7r (w:Op) (o:Op):Bool:=match o with
 | .lookup t _ _ ok=>!ok&&zoT t w
 | _=>false
def zoU (ops:Array Oper) (w:Op) (k:Nat):Bool:=Option.rec false (fun o=>z7r w o.op) ops[k]?
def z1N (ops:Array Oper) (o:Op) (bs:List Nat) (r i X m:Nat) (l:List (Nat×Option (List Nat))):Bool:=l.all fun w=>z1j bs r i X m w.1 w.2||zoU ops o w.1
def z0Z (T:Fr) (c:Call):Option Nat:=match c.callee with
 | .builtin .append=>match T.evs c.args.toList with
  | some [.slice (some a) _ _,.slice _ _ _]=>some a.block
  | _=>none
 | _=>none
def storeAt (T:Fr):Op→Option Nat
 | .store _ a _=>ob (ob (T.ev a) addrOf) fun p=>some p.block
 | .call c=>z0Z T c
 | .mapUpdate _ m _ _=>ob (T.ev m) z3M
 | .mapEntry _ m _=>ob (T.ev m) z3M
 | .entryStore _ m _ _=>ob (T.ev m) z3M
 | .next a _=>ob (ob (T.ev a) addrOf) fun p=>some p.block
 | _=>none
structure Dr where
 r:Nat
 starts:List Nat
 recs:List (Nat×Option (List Nat))
 wrs:List (Nat×Nat×Nat)
 rgs:List (Nat×Nat)
def zo6:Op→Bool
 | .call _=>true
 | _=>false
def z5v (low:Nat) (t:Option (List Nat)):Bool:=Option.rec false (fun l=>l.all fun b=>Nat.blt b low) t
def zkH (bs:List Nat) (k:Nat) (t:Option (List Nat)) (l:List (Nat×Nat)):Bool:=l.all fun w=>z6I bs w.1 k||z5v w.2 t
def zdR (bs:List Nat) (i low:Nat) (o:Op) (t:Option (List Nat)) (starts:List Nat) (recs:List (Nat×Option (List Nat))):Bool :=
 (zo6 o&&Option.rec true (fun _=>false) t)&&recs.all fun q=>z6I bs i q.1||(z5v low q.2&&Nat.beq ((starts[q.1]?).getD 0) ((starts[q.1+1]?).getD 0))
def obE {α β : Type} (x:Option α) (d:Option β) (f : α → Option β):Option β :=Option.rec d f x
def z0s (ops:Array Oper) (bs:List Nat) (i:Nat) (T:Fr) (size low:Nat) (o:Op) (D:Dr):Option Dr :=
 gd ((D.wrs.isEmpty||zaA bs D.r i (zH T o) D.wrs)&&zkH bs i (zH T o) D.rgs)
  (bf (Nat.ble size low||uni bs i) (some ⟨D.r,D.starts++[size],(i,zH T o)::D.recs,D.wrs,D.rgs⟩)
   (obE (storeAt T o) (gd (zdR bs i low o (zH T o) (D.starts++[size]) D.recs) (some ⟨D.r,D.starts++[size],(i,zH T o)::D.recs,D.wrs,(i,low)::D.rgs⟩)) fun X=>gd ((Nat.blt X D.r||((bs[i]?).getD 0).testBit (zx X (D.starts++[size]) - 1))&&z1N ops o bs D.r i X (zx X (D.starts++[size]) - 1) D.recs)
    (some ⟨D.r,D.starts++[size],(i,zH T o)::D.recs,(i,X,zx X (D.starts++[size]) - 1)::D.wrs,D.rgs⟩)))
def z4g (E:Env) (callF:z1f) (codeF:z15) (ops:Array Oper) (bs:List Nat) (l:List Oper):Nat→Dr→Fr→St→Option (Fr×St) :=
 List.rec (fun _ _ T S=>some (T,S)) (fun o _ ih i D T S=>ob (zq E callF codeF ops o T ⟨S.heap,S.size,S.size⟩) fun r =>
  ob (z0s ops bs i T S.size r.2.low o.op D) fun D'=>ih (Nat.succ i) D' r.1 ⟨r.2.heap,r.2.size,Nat.min S.low r.2.low⟩) l
def zhF (r:Fr×St):Option Res:=some ⟨.normal,r.1,r.2⟩
def z7M (E:Env) (callF:z1f) (codeF:z15) (ops:Array Oper) (draw:Bool) (T:Fr) (S:St):Option Res :=
 ob (bf draw (z4g E callF codeF ops (z4M ops.toList []) ops.toList 0 ⟨S.size,[],[],[],[]⟩ T S) (z4P E callF codeF ops ops.toList T S)) zhF
def zl (r:Res) (k:Fr→St→Option Res):Option Res:=LExit.rec (k r.T r.S) (fun _=>some r) (some r) r.ex
def z8r (id:Nat) (r:Res):Option Res:=LExit.rec (some r) (fun k=>some ⟨bf (Nat.beq k id) .normal (.exit k),r.T,r.S⟩) (some r) r.ex
def ziq (S:St) (r:Option Nat):Bool:=Option.rec true (fun lb=>Option.rec false (fun _=>true) (ob (S.heap.get lb) z3e)) r
def z9V:Option Code→Option LExit
 | none=>some .normal
 | some .ret=>some .ret
 | some (.exit id)=>some (.exit id)
 | _=>none
def funcOf:Value→Option (Nat×List Value×List Value)
 | .func (.func g) first cap=>some (g,first.toList,cap.toList)
 | _=>none
def z2B (callF:z1f) (f:Operand) (ps:List Tmp) (asg body:Code) (r:Option Nat) (T:Fr) (S:St):Option Res :=
 gd (ziq S r) (ob (ob (T.ev f) funcOf) fun g =>
  ob (callF g.1 (g.2.1++([.func (.yield S.size) #[] #[]]++g.2.2)) (S.new (.loop .ready none T ps asg body))) fun q =>
   ob (ob (q.2.heap.get S.size) z3e) fun u=>gd (!z9L u.1) (ob (z9V u.2.1) fun ex =>
    some ⟨ex,T,q.2.put S.size (.loop .exhausted u.2.1 u.2.2.1 u.2.2.2.1 u.2.2.2.2.1 u.2.2.2.2.2)⟩))
def z1C (E:Env) (callF:z1f) (codeF:z15) (c:Code):Option Nat→Fr→St→Option Res :=
 Code.rec (motive:=fun _=>Option Nat→Fr→St→Option Res)
  (fun _ T S=>some ⟨.normal,T,S⟩)
  (fun _ ops draw _ T S=>z7M E callF codeF ops draw T S)
  (fun _ _ iha ihb r T S=>ob (iha r T S) fun q=>zl q (ihb r))
  (fun c _ _ iha ihb r T S=>ob (ob (T.ev c) z3l) fun t=>bf t (iha r T S) (ihb r T S))
  (fun id _ ih r T S=>ob (ih r T S) (z8r id))
  (fun body ih r T S=>ob (ih r T S) fun q=>zl q (codeF (.loop body) r))
  (fun f ps asg body _ _ r T S=>z2B callF f ps.toList asg body r T S)
  (fun id _ T S=>some ⟨.exit id,T,S⟩)
  (fun _ ih r T S=>ih r T S)
  (fun _ _ T S=>some ⟨.normal,T,S⟩)
  (fun _ _ _ _=>none)
  (fun _ T S=>some ⟨.ret,T,S⟩)
  (fun _ _ _ _=>none) c
def z10 (l:List Value):Nat→Tr Value→Tr Value:=List.rec (fun _ t=>t) (fun v _ ih i t=>ih (Nat.succ i) (t.set i v)) l
def zn4 (E:Env) (T:Fr) (S:St) (r:ResultVar):Option Value :=
 ResultVar.rec (fun t=>T.t.get t) (fun a t=>ob (ob (T.t.get a) addrOf) fun p=>z0e E t p S) r
def z18 (E:Env) (T:Fr) (S:St) (l:List ResultVar):Option (List Value) :=
 List.rec (some []) (fun r _ ih=>ob (zn4 E T S r) fun v=>ob ih fun vs=>some (v::vs)) l
def zkG:List Value→Value
 | [v]=>v
 | vs=>.tuple vs.toArray
def z8H:LExit→Bool
 | .exit _=>true
 | _=>false
def z3Z (E:Env) (fn:Func) (q:Res):Option (Value×St) :=
 gd (!z8H q.ex) (ob (z18 E q.T q.S fn.results.toList) fun vs=>some (zkG vs,q.S))
def z2E (E:Env) (f:Nat) (args:List Value):Bool:=Option.rec false (fun h=>Nat.beq f h&&args.isEmpty) E.hook
def z4T (E:Env) (f:Nat):Bool:=Option.rec false (fun h=>Nat.beq f h) E.sort
def zf9 (E:Env) (f:Nat):Bool:=Option.rec false (fun h=>Nat.beq f h.1) E.ins
def z0A (E:Env) (f:Nat):Bool:=z4T E f||zf9 E f
def zdJ:Value→Option Int
 | .int .i64 n=>some n
 | _=>none
def z5K (l:List Value):Option (List Int):=List.rec (some []) (fun v _ r=>ob (zdJ v) fun n=>ob r fun l=>some (n::l)) l
def z6r (zs:List Int):List Int:=zs.mergeSort fun x y=>decide (x≤y)
def zfQ (args:List Value) (S:St):Option (Value×St):=match args with
 | [.slice a n _]=>bf (Nat.beq n 0) (some (.tuple #[],S)) (Option.rec none (fun a=>ob (S.cells a.block) fun cs=>gd (Nat.blt n 4611686018427387904) (ob (ob (cut cs.1 a.off n) z5K) fun zs=>ob (paste cs.1 a.off ((z6r zs).map (.int .i64))) fun c'=>some (.tuple #[],S.put a.block (.cells c' cs.2)))) a)
 | _=>none
def z6D (sz i:Nat) (old new:List Value):List Value:=old.take (i*sz)++new++old.drop (i*sz)
def zot (E:Env) (elem:TypeId) (ok:Bool) (c:Nat) (i:Int) (v:Addr) (m:Nat) (S:St):Option (Value×St) :=
 ob (E.ti.get elem) fun e=>gd (ok&&(Nat.beq c 0&&(Nat.beq m 1&&(decide (i=0)&&Nat.blt 0 e.size)))) <|
  ob (S.cells v.block) fun cv=>ob (cut cv.1 v.off e.size) fun new=>gd (new.all scalar) <| some (.slice (some ⟨S.size,0,some 0⟩) 1 1,S.new (.cells new elem))
def zm1 (E:Env) (elem:TypeId) (args:List Value) (S:St):Option (Value×St):=match args with
 | [.slice none n c,.int .i64 i,.slice (some v) m _]=>zot E elem (Nat.beq n 0) c i v m S
 | [.slice (some a) n c,.int .i64 i,.slice (some v) m _]=>bf (Nat.beq n 0) (zot E elem (Option.isNone a.spot) c i v m S) <|
  ob (E.ti.get elem) fun e =>
  gd (Option.isSome a.spot&&(Nat.beq m 1&&(Nat.ble (n+1) 1048576&&(decide (0≤i)&&(decide (i≤Int.ofNat n)&&(Nat.blt 0 n&&(Nat.blt 0 e.size && !Nat.beq a.block v.block))))))) <|
  ob (S.cells a.block) fun cs=>gd (Nat.beq cs.2 elem) <| ob (cut cs.1 a.off (n*e.size)) fun old =>
  ob (S.cells v.block) fun cv=>ob (cut cv.1 v.off e.size) fun new=>gd (new.all scalar&&old.all scalar) <|
  some (.slice (some ⟨S.size,0,some 0⟩) (n+1) (n+1),(S.put a.block .dead).new (.cells (z6D e.size i.toNat old new) elem))
 | _=>none
def zor (E:Env) (f:Nat) (args:List Value) (S:St):Option (Value×St):=bf (z4T E f) (zfQ args S) (Option.rec none (fun h=>zm1 E h.2 args S) E.ins)
def z2z (E:Env) (f:Nat):Bool:=E.orcs.any fun h=>Nat.beq f h
def zkW (E:Env) (f:Nat):Bool:=E.lks.any fun h=>Nat.beq f h
def mkE (E:Env) (f:Nat) (args:List Value) (S:St):Option (Value×St):=ob (E.lkf f args S) fun q=>bf (Nat.beq q.1 0) (some (.slice none 0 0,S)) (some (.slice (some ⟨S.size,0,some 0⟩) q.1 q.1,S.new (.cells q.2.1 q.2.2)))
def znd (E:Env) (f:Nat) (args:List Value) (S:St):Option (Value×St):=bf (zkW E f) (mkE E f args S) (ob (E.orc f args S) fun v=>some (v,S))
def z6j (E:Env) (f:Nat):Bool:=Option.rec true (fun h=>!Nat.beq f h) E.hook&&(!z0A E f && !z2z E f)
def zjh (E:Env) (callF:z1f) (codeF:z15) (f:Nat) (args:List Value) (S:St):Option (Value×St):=bf (z2E E f args) (some (.bool true,S)) <|
 bf (z0A E f) (zor E f args S) <| bf (z2z E f) (znd E f args S) <|
 ob (E.fns.get f) fun fn=>ob fn.body fun c=>gd (Nat.ble args.length fn.ntmps)
  (ob (z1C E callF codeF c none ⟨fn.ntmps,z10 args 0 .nil⟩ S) (z3Z E fn))
structure RunF where
 call:z1f
 code:z15
def run (E:Env) (n:Nat):RunF :=
 Nat.rec ⟨fun _ _ _=>none,fun _ _ _ _=>none⟩ (fun _ ih=>⟨zjh E ih.call ih.code,z1C E ih.call ih.code⟩) n
end
noncomputable section
def zii:Value→Bool
 | .bool _=>true
 | .int _ _=>true
 | .string _=>true
 | .nilFunc=>true
 | .nilIface=>true
 | .pointer none=>true
 | .slice none 0 0=>true
 | .map none=>true
 | _=>false
def litV:Value→Bool
 | .agg cs=>cs.toList.all zii
 | .tuple cs=>cs.toList.all zii
 | v=>zii v
def z0V:Operand→Bool
 | .const v=>litV v
 | _=>true
def tmpsOf (l:List Operand):List Tmp:=l.filterMap fun x=>match x with
 | .tmp t=>some t
 | _=>none
def readsOf (ops:Array Oper) (o:Oper):List Tmp :=
 tmpsOf o.op.operands.toList++(match o.guard with
  | none=>[]
  | some g=>(ob ops.toList[g.1]? (·.dst)).toList)
def zfo (d:Option Tmp) (l:List Tmp):Bool:=match d with
 | none=>false
 | some t=>l.contains t
def ze5 (ops:Array Oper) (x y:Oper) (b i:Nat):Bool :=
 b.testBit i || !(zfo x.dst (readsOf ops y++y.dst.toList)||zfo y.dst (readsOf ops x))
def z5Z (ops:Array Oper) (y:Oper) (b:Nat):List Oper→Nat→Bool
 | [],_=>true
 | x::l,i=>ze5 ops x y b i&&z5Z ops y b l (i+1)
def zj6 (i:Nat) (l:List Edge):Bool:=l.all fun e=>!Region.binds .any e||decide (e.on<i)
def z94 (ops:Array Oper) (bs:List Nat):List Oper→Nat→Bool
 | [],_=>true
 | y::l,k=>zj6 k y.after.toList&&z5Z ops y ((bs[k]?).getD 0) (ops.toList.take k) 0&&z94 ops bs l (k+1)
def z7P:Code→Bool
 | .region _ ops draw=>ops.toList.all (fun o=>o.op.operands.toList.all z0V)&&(!draw||z94 ops (z4M ops.toList []) ops.toList 0)
 | .seq a b=>z7P a&&z7P b
 | .cond c a b=>z0V c&&(z7P a&&z7P b)
 | .block _ b=>z7P b
 | .loop b=>z7P b
 | .scope b=>z7P b
 | .rangeFunc f _ a b=>z0V f&&(z7P a&&z7P b)
 | _=>true
def zhO (P:Program) (t:TypeId):TypeDesc→Bool
 | .struct fs => !P.stoodInHeld t && (!P.eqGuardType P.depth t && fs.toList.all fun f => f.name != "_")
 | _=>false
def z8Z (P:Program):TypeDesc→Bool
 | .struct fs=>fs.toList.all fun f=>(P.info? f.type).isSome
 | _=>true
def zoI (P:Program) (t:TypeId):Option LTy:=match P.info? t,P.underlying t with
 | some i,some d=>match i.zero with
  | some z=>gd (litV z&&z8Z P d) (some { desc:=d,size:=i.size,bytes:=i.bytes,zero:=z,plain:=zhO P t d,agg:=z4c d })
  | none=>none
 | _,_=>none
def zq7 (P:Program):Nat→Tr LTy→Tr LTy
 | 0,T=>T
 | n+1,T=>zq7 P n (match zoI P n with
  | some x=>T.set n x
  | none=>T)
def ziW:List (Nat×Func)→Tr Func
 | []=>.nil
 | (i,f)::l=>(ziW l).set i f
def St.empty:St:={ heap:=.nil,size:=0,low:=0 }
end
structure JB where
 blk:Nat
 delta:Nat
 csize:Nat
 esize:Nat
abbrev Inj:=Nat→Option JB
def Le (j j':Inj):Prop:=∀ b x,j b=some x→j' b=some x
theorem Le.refl (j:Inj):Le j j:=fun _ _ h=>h
theorem Le.trans {j j' j'':Inj} (h:Le j j') (h':Le j' j''):Le j j'':=fun b x hb=>h' b x (h b x hb)
def ARel (j:Inj) (a a':Addr):Prop:=a.spot=none∧∃ x,j a.block=some x∧a'=⟨x.blk,a.off+x.delta,none⟩
def SRel (j:Inj) (a a':Addr) (n c c':Nat):Prop :=
 ∃ x,j a.block=some x∧(c'≠0→a'.block=x.blk)∧(c'≠0→a'.spot=none)∧n≤c'∧(a.spot=none→c'=c)∧c≤c' ∧
  (c'=0∨(a'.off=a.off+x.delta∧(a.spot=none∨a'.off+c'*x.esize≤x.csize)))
inductive FRel (j:Inj):Fn→Fn→Prop
 | func (f:FuncId):FRel j (.func f) (.func f)
 | yield {l:Nat} {x:JB} (h:j l=some x):FRel j (.yield l) (.yield x.blk)
mutual
inductive Yf (j:Inj):Value→Value→Prop
 | bool (b:Bool):Yf j (.bool b) (.bool b)
 | int (k:IntKind) (n:Int):Yf j (.int k n) (.int k n)
 | string (s:ByteArray):Yf j (.string s) (.string s)
 | nilFunc:Yf j .nilFunc .nilFunc
 | nilIface:Yf j .nilIface .nilIface
 | nilPtr:Yf j (.pointer none) (.pointer none)
 | ptr {a a':Addr} (h:ARel j a a'):Yf j (.pointer (some a)) (.pointer (some a'))
 | nilSlice:Yf j (.slice none 0 0) (.slice none 0 0)
 | slice {a a':Addr} {n c c':Nat} (h:SRel j a a' n c c'):Yf j (.slice (some a) n c) (.slice (some a') n c')
 | nilMap:Yf j (.map none) (.map none)
 | map {r:Nat} {x:JB} (h:j r=some x):Yf j (.map (some r)) (.map (some x.blk))
 | func {fn fn':Fn} {a b a' b':Array Value} (h:FRel j fn fn') (ha:Yh j a.toList a'.toList) (hb:Yh j b.toList b'.toList):Yf j (.func fn a b) (.func fn' a' b')
 | agg {a a':Array Value} (ha:Yh j a.toList a'.toList):Yf j (.agg a) (.agg a')
 | tuple {a a':Array Value} (ha:Yh j a.toList a'.toList):Yf j (.tuple a) (.tuple a')
inductive Yh (j:Inj):List Value→List Value→Prop
 | nil:Yh j [] []
 | cons {v v':Value} {l l':List Value} (h:Yf j v v') (hl:Yh j l l'):Yh j (v::l) (v'::l')
end
theorem ARel.mono {j j':Inj} (hj:Le j j') {a a':Addr} (h:ARel j a a'):ARel j' a a' :=
 let ⟨hs,x,hx,he⟩:=h;⟨hs,x,hj _ _ hx,he⟩
theorem SRel.mono {j j':Inj} (hj:Le j j') {a a':Addr} {n c c':Nat} (h:SRel j a a' n c c'):SRel j' a a' n c c' :=
 let ⟨x,hx,h⟩:=h;⟨x,hj _ _ hx,h⟩
theorem FRel.mono {j j':Inj} (hj:Le j j') {f f':Fn} (h:FRel j f f'):FRel j' f f':=by
 cases h with
 | func f=>exact .func f
 | yield h=>exact .yield (hj _ _ h)
mutual
theorem Yf.mono {j j':Inj} (hj:Le j j') {v v':Value}:Yf j v v'→Yf j' v v'
 | .bool b=>.bool b
 | .int k n=>.int k n
 | .string s=>.string s
 | .nilFunc=>.nilFunc
 | .nilIface=>.nilIface
 | .nilPtr=>.nilPtr
 | .ptr h=>.ptr (h.mono hj)
 | .nilSlice=>.nilSlice
 | .slice h=>.slice (h.mono hj)
 | .nilMap=>.nilMap
 | .map h=>.map (hj _ _ h)
 | .func h ha hb=>.func (h.mono hj) (ha.mono hj) (hb.mono hj)
 | .agg ha=>.agg (ha.mono hj)
 | .tuple ha=>.tuple (ha.mono hj)
theorem Yh.mono {j j':Inj} (hj:Le j j') {v v':List Value}:Yh j v v'→Yh j' v v'
 | .nil=>.nil
 | .cons h hl=>.cons (h.mono hj) (hl.mono hj)
end
def meet (j k:Inj):Inj:=fun b=>if (k b).isSome then j b else none
theorem z6A {j k:Inj} {b:Nat} {x y:JB} (h:j b=some x) (hk:k b=some y):meet j k b=some x:=by simp [meet,h,hk]
theorem zns (j k:Inj):Le (meet j k) j:=fun b x h=>by
 simp only [meet] at h;split at h
 ·exact h
 ·cases h
theorem ARel.meet {j k:Inj} {a a' a'':Addr} (h:ARel j a a') (hk:ARel k a a''):ARel (meet j k) a a' :=
 let ⟨hs,x,hx,he⟩:=h;let ⟨_,_,hy,_⟩:=hk;⟨hs,x,z6A hx hy,he⟩
theorem SRel.meet {j k:Inj} {a a' a'':Addr} {n c c' n' d d':Nat} (h:SRel j a a' n c c') (hk:SRel k a a'' n' d d'):SRel (meet j k) a a' n c c' :=
 let ⟨x,hx,h⟩:=h;let ⟨_,hy,_⟩:=hk;⟨x,z6A hx hy,h⟩
theorem FRel.meet {j k:Inj} {f f' f'':Fn} (h:FRel j f f') (hk:FRel k f f''):FRel (meet j k) f f':=by
 cases h with
 | func f=>exact .func f
 | yield h=>cases hk with
  | yield hk=>exact .yield (z6A h hk)
mutual
theorem Yf.meet {j k:Inj} {v v' v'':Value}:Yf j v v'→Yf k v v''→Yf (meet j k) v v'
 | .bool b,_=>.bool b
 | .int k n,_=>.int k n
 | .string s,_=>.string s
 | .nilFunc,_=>.nilFunc
 | .nilIface,_=>.nilIface
 | .nilPtr,_=>.nilPtr
 | .ptr h,.ptr h'=>.ptr (h.meet h')
 | .nilSlice,_=>.nilSlice
 | .slice h,.slice h'=>.slice (h.meet h')
 | .nilMap,_=>.nilMap
 | .map h,.map h'=>.map (z6A h h')
 | .func h ha hb,.func h' ha' hb'=>.func (h.meet h') (ha.meet ha') (hb.meet hb')
 | .agg ha,.agg ha'=>.agg (ha.meet ha')
 | .tuple ha,.tuple ha'=>.tuple (ha.meet ha')
theorem Yh.meet {j k:Inj} {v v' v'':List Value}:Yh j v v'→Yh k v v''→Yh (Proofs.YtdpipdniklognaaGreat.meet j k) v v'
 | .nil,_=>.nil
 | .cons h hl,.cons h' hl'=>.cons (h.meet h') (hl.meet hl')
end
theorem Yh.length {j:Inj} {l l':List Value} (h:Yh j l l'):l.length=l'.length:=by
 induction l generalizing l' with
 | nil=>cases h;rfl
 | cons v l ih=>cases h with
  | cons hv hl=>simp [ih hl]
theorem Yh.get {j:Inj} {l l':List Value} (h:Yh j l l') {i:Nat} {v:Value} (hi:l[i]? = some v):∃ v',l'[i]? = some v'∧Yf j v v':=by
 induction l generalizing l' i with
 | nil=>simp at hi
 | cons u l ih=>cases h with
  | cons hv hl=>cases i with
   | zero=>simp at hi;subst hi;exact ⟨_,rfl,hv⟩
   | succ i=>simpa using ih hl (by simpa using hi)
theorem z7n {j:Inj} {l l':List Value} (hl:l.length=l'.length) (h:∀ (i:Nat) (v:Value),l[i]? = some v→∃ v',l'[i]? = some v'∧Yf j v v'):Yh j l l':=by
 induction l generalizing l' with
 | nil=>cases l' with
  | nil=>exact .nil
  | cons=>simp at hl
 | cons u l ih=>cases l' with
  | nil=>simp at hl
  | cons u' l' =>
   refine .cons ?_ (ih (by simpa using hl) fun i v hv=>by simpa using h (i+1) v (by simpa using hv))
   obtain ⟨v',hv',hr⟩:=h 0 u rfl
   simp at hv';subst hv';exact hr
theorem Yh.append {j:Inj} {l l' m m':List Value} (h:Yh j l l') (hm:Yh j m m'):Yh j (l++m) (l'++m'):=by
 induction l generalizing l' with
 | nil=>cases h;exact hm
 | cons u l ih=>cases h with
  | cons hv hl=>exact .cons hv (ih hl)
theorem Yh.drop {j:Inj} {l l':List Value} (h:Yh j l l') (n:Nat):Yh j (l.drop n) (l'.drop n):=by
 induction l generalizing l' n with
 | nil=>cases h;simpa using Yh.nil
 | cons u l ih=>cases h with
  | cons hv hl=>cases n with
   | zero=>exact .cons hv hl
   | succ n=>simpa using ih hl n
theorem Yh.take {j:Inj} {l l':List Value} (h:Yh j l l') (n:Nat):Yh j (l.take n) (l'.take n):=by
 induction l generalizing l' n with
 | nil=>cases h;simpa using Yh.nil
 | cons u l ih=>cases h with
  | cons hv hl=>cases n with
   | zero=>exact .nil
   | succ n=>simpa using Yh.cons hv (ih hl n)
theorem z4y (j:Inj) {v:Value} (h:zii v=true):Yf j v v:=by
 unfold zii at h
 split at h <;> first | exact Yf.bool _ | exact Yf.int _ _ | exact Yf.string _ | exact Yf.nilFunc | exact Yf.nilIface | exact Yf.nilPtr | exact Yf.nilSlice | exact Yf.nilMap | cases h
theorem zc4 (j:Inj) {l:List Value} (h:l.all zii=true):Yh j l l:=by
 induction l with
 | nil=>exact .nil
 | cons v l ih =>
  simp only [List.all_cons,yw] at h
  exact .cons (z4y j h.1) (ih h.2)
theorem z1x (j:Inj) {v:Value} (h:litV v=true):Yf j v v:=by
 unfold litV at h
 split at h
 ·exact .agg (zc4 j h)
 ·exact .tuple (zc4 j h)
 ·exact z4y j h
theorem Yf.cells {j:Inj} {v v':Value} (h:Yf j v v'):Yh j v.cells.toList v'.cells.toList:=by
 cases h <;> first | (simp only [Value.cells];assumption) | (refine Yh.cons ?_ Yh.nil;constructor <;> assumption)
theorem Yf.scalar {j:Inj} {v v':Value} (h:Yf j v v'):v'.oneCell'=scalar v:=by cases h <;> rfl
structure Good where
 P:Program
 E:Env
def TRel (j:Inj) (T:Fr) (tmps:Array Value):Prop:=T.n≤tmps.size∧∀ t v,T.t.get t=some v→∃ v',tmps[t]? = some v'∧Yf j v v'
def ORel (G:Good) (j:Inj) (x:JB) (o:Yg) (o':Obj):Prop:=match o with
 | .cells c e=>∃ c' e',o' = .cells c' e' (0,0)∧c'.size=x.csize∧x.delta+c.length≤x.csize∧(∀ t,G.E.ti.get e=some t→t.size=x.esize) ∧
   ∀ (i:Nat) (v:Value),c[i]? = some v→∃ v':Value,c'[x.delta+i]? = some v'∧Yf j v v'
 | .map es=>∃ es' clock,o' = .map es' clock∧es.length=es'.size∧(∀ (i:Nat) (p:Value×Value),es[i]? = some p→∃ e:MapEntry,es'[i]? = some e∧Yf j p.1 e.key∧Yf j p.2 e.val)∧clock=es.length∧∀ (i:Nat) (e:MapEntry),es'[i]? = some e→e.born=i
 | .loop st pd T ps asg body=>∃ L,o' = .loop L∧L.state=st∧L.pending=pd∧L.params.toList=ps∧L.assign=asg∧L.body=body∧TRel j T L.tmps∧z7P asg=true∧z7P body=true
 | .nilIter=>x.delta=0∧∃ a b c,o' = .mapIter none a b c
 | .strIter s pos=>x.delta=0∧o' = .stringIter s pos
 | .dead=>True
def live (S:St) (b:Nat):Prop:=∃ o,S.heap.get b=some o∧o≠.dead
def zs6 (G:Good) (j:Inj) (x:JB) (c:List Value×TypeId) (w:World):Prop:=c.1≠[]→∃ c' e' fr,w.heap[x.blk]? = some (.cells c' e' fr)∧c'.size=x.csize∧x.delta+c.1.length≤x.csize∧(∀ t,G.E.ti.get c.2=some t→t.size=x.esize) ∧
 ∀ (i:Nat) (v:Value),c.1[i]? = some v→∃ v':Value,c'[x.delta+i]? = some v'∧Yf j v v'
def Rom (G:Good) (j:Inj) (S:St) (w:World):Prop:=∀ b c,G.E.rom.get b=some c→∃ x,j b=some x∧zs6 G j x c w∧∀ d y,j d=some y→live S d→y.blk≠x.blk
structure Sim (G:Good) (j:Inj) (S:St) (w:World):Prop where
 dom:∀ b x,j b=some x→b<S.size∧x.blk<w.heap.size
 objs:∀ b x o,j b=some x→S.heap.get b=some o→∃ o',w.heap[x.blk]? = some o'∧ORel G j x o o'
 inj:∀ b c x y,j b=some x→j c=some y→live S b→live S c→x.blk=y.blk→b=c
 rom:Rom G j S w
def Sim3 (G:Good) (j:Inj) (S:St) (w:World):Prop:=(∀ b x,j b=some x→b<S.size∧x.blk<w.heap.size)∧(∀ b x o,j b=some x→S.heap.get b=some o→∃ o',w.heap[x.blk]? = some o'∧ORel G j x o o') ∧
 ∀ b c x y,j b=some x→j c=some y→live S b→live S c→x.blk=y.blk→b=c
theorem Sim3.sim {G:Good} {j:Inj} {S:St} {w:World} (h:Sim3 G j S w) (hr:Rom G j S w):Sim G j S w:=⟨h.1,h.2.1,h.2.2,hr⟩
theorem Rom.heap_eq {G:Good} {j:Inj} {S:St} {w w':World} (h:Rom G j S w) (he:w'.heap=w.heap):Rom G j S w':=fun b c hb=>by
 obtain ⟨x,hx,hrb,h6⟩:=h b c hb
 exact ⟨x,hx,fun hne=>(let ⟨c',e',fr,h1,h2⟩:=hrb hne;⟨c',e',fr,by rw [he];exact h1,h2⟩),h6⟩
theorem Rom.world {G:Good} {j:Inj} {S S':St} {w w':World} (h:Rom G j S w) (hw:∀ b x,j b=some x→w'.heap[x.blk]? = w.heap[x.blk]?) (hl:∀ d,live S' d→live S d):Rom G j S' w':=fun b c hb=>by
 obtain ⟨x,hx,hrb,h6⟩:=h b c hb
 exact ⟨x,hx,fun hne=>(let ⟨c',e',fr,h1,h2⟩:=hrb hne;⟨c',e',fr,by rw [hw b x hx];exact h1,h2⟩),fun d y hd hv=>h6 d y hd (hl d hv)⟩
def SameIo (w w':World):Prop:=w'.os=w.os∧0=0∧w'.output=w.output
theorem SameIo.refl (w:World):SameIo w w:=⟨rfl,rfl,rfl⟩
theorem SameIo.trans {a b c:World} (h:SameIo a b) (k:SameIo b c):SameIo a c:=⟨k.1.trans h.1,k.2.1.trans h.2.1,k.2.2.trans h.2.2⟩
structure Ext (lo:Nat) (j:Inj) (S:St) (w:World) (j':Inj) (S':St) (w':World):Prop where
 sub:Le j j'
 size:S.size≤S'.size
 heap:w.heap.size≤w'.heap.size
 dead:∀ b,b<S.size→live S' b→live S b
 lfr:∀ b,b<S.size→b<lo→S'.heap.get b=S.heap.get b
 fr:∀ c,c<w.heap.size→(∀ b x,j b=some x→lo≤b→live S b→x.blk≠c)→w'.heap[c]? = w.heap[c]?
 new:∀ b x,j' b=some x→j b=none→S.size≤b∧(w.heap.size≤x.blk∨∃ c y,j c=some y∧lo≤c∧live S c∧y.blk=x.blk)
 all:∀ b,S.size≤b→b<S'.size→∃ x,j' b=some x
 io:SameIo w w'
theorem TRel.mono {j j':Inj} (hj:Le j j') {T:Fr} {t:Array Value} (h:TRel j T t):TRel j' T t :=
 ⟨h.1,fun i v hi=>let ⟨v',h1,h2⟩:=h.2 i v hi;⟨v',h1,h2.mono hj⟩⟩
theorem ORel.mono {G:Good} {j j':Inj} (hj:Le j j') {x:JB} {o:Yg} {o':Obj} (h:ORel G j x o o'):ORel G j' x o o':=by
 cases o with
 | cells c e =>
  obtain ⟨c',e',h1,h2,h3,h4,h5⟩:=h
  exact ⟨c',e',h1,h2,h3,h4,fun i v hi=>let ⟨v',a,b⟩:=h5 i v hi;⟨v',a,b.mono hj⟩⟩
 | map es =>
  obtain ⟨es',k,h1,h2,h3,h4⟩:=h
  exact ⟨es',k,h1,h2,fun i p hi=>let ⟨e,a,b,c⟩:=h3 i p hi;⟨e,a,b.mono hj,c.mono hj⟩,h4⟩
 | loop st pd T ps asg body =>
  obtain ⟨L,h1,h2,h3,h4,h5,h6,h7,h8⟩:=h
  exact ⟨L,h1,h2,h3,h4,h5,h6,h7.mono hj,h8⟩
 | nilIter=>exact h
 | strIter s pos=>exact h
 | dead=>trivial
theorem Ext.refl (lo:Nat) (j:Inj) (S:St) (w:World):Ext lo j S w j S w :=
 ⟨Le.refl j,ym _,ym _,fun _ _ h=>h,fun _ _ _=>rfl,fun _ _ _=>rfl,(fun b x h h'=>by rw [h] at h';cases h'),(fun b h1 h2=>by omega),SameIo.refl w⟩
theorem Rom.ext {G:Good} {lo:Nat} {j j':Inj} {S S':St} {w w':World} (h:Rom G j S w) (hd:∀ b x,j b=some x→b<S.size∧x.blk<w.heap.size) (he:Ext lo j S w j' S' w'):Rom G j' S' w':=by
 intro b c hb
 obtain ⟨x,hx,hrb,h6⟩:=h b c hb
 refine ⟨x,he.sub b x hx,fun hne=>?_,fun d y hj hl e=>?_⟩
 obtain ⟨c',e',fr,h1,h2,h3,h4,h5⟩:=hrb hne
 refine ⟨c',e',fr,?_,h2,h3,h4,fun i v hi=>?_⟩
 ·rw [he.fr x.blk (hd b x hx).2 fun d y hj _ hl=>h6 d y hj hl];exact h1
 ·obtain ⟨v',k1,k2⟩:=h5 i v hi
  exact ⟨v',k1,k2.mono he.sub⟩
 ·cases hjd:j d with
  | some z =>
   have:=he.sub d z hjd
   rw [hj] at this;cases this
   exact h6 d y hjd (he.dead d (hd d y hjd).1 hl) e
  | none =>
   obtain ⟨_,h7⟩:=he.new d y hj hjd
   rcases h7 with h7 | ⟨k,z,h8,_,h9,h10⟩
   ·have:=(hd b x hx).2;omega
   ·exact h6 k z h8 h9 (by rw [h10,e])
theorem Ext.low {lo lo':Nat} {j j':Inj} {S S':St} {w w':World} (h:Ext lo j S w j' S' w') (hl:lo'≤lo):Ext lo' j S w j' S' w' :=
 ⟨h.sub,h.size,h.heap,h.dead,fun b hb hlo=>h.lfr b hb (yo hlo hl),fun c hc hf=>h.fr c hc fun b x hb hlo=>hf b x hb (yn hl hlo),
  fun b x hb hn=>let ⟨h1,h2⟩:=h.new b x hb hn;⟨h1,h2.imp id fun ⟨c,y,a,b,d⟩=>⟨c,y,a,yn hl b,d⟩⟩,h.all,h.io⟩
theorem Ext.trans {lo lo':Nat} {j j₁ j₂ : Inj} {S S₁ S₂ : St} {w w₁ w₂ : World} (hd:∀ b x,j b=some x→b<S.size)
  (h:Ext lo j S w j₁ S₁ w₁) (h':Ext lo' j₁ S₁ w₁ j₂ S₂ w₂) (hl:lo'≤lo):Ext lo' j S w j₂ S₂ w₂ :=by
 refine ⟨h.sub.trans h'.sub,yn h.size h'.size,yn h.heap h'.heap,fun b hb hv=>h.dead b hb (h'.dead b (yo hb h.size) hv),
  fun b hb hlo=>(h'.lfr b (yo hb h.size) hlo).trans (h.lfr b hb (yo hlo hl)),?_,?_,(fun b h1 h2=>by
   by_cases h3:b<S₁.size
   ·obtain ⟨x,hx⟩:=h.all b h1 h3
    exact ⟨x,h'.sub b x hx⟩
   ·exact h'.all b (by omega) h2),h.io.trans h'.io⟩
 ·intro c hc hf
  have h1:=h.fr c hc fun b x hb hlo=>hf b x hb (yn hl hlo)
  rw [←h1]
  refine h'.fr c (yo hc h.heap) fun b x hb hlo hv=>?_
  cases hj:j b with
  | some y =>
   have:=h.sub b y hj
   rw [hb] at this;cases this
   exact hf b x hj hlo (h.dead b (hd b x hj) hv)
  | none =>
   obtain ⟨_,h2⟩:=h.new b x hb hj
   rcases h2 with h2 | ⟨d,y,h3,h4,h5,h6⟩
   ·omega
   ·rw [←h6];exact hf d y h3 (yn hl h4) h5
 ·intro b x hb hn
  cases hj:j₁ b with
  | some y =>
   have:=h'.sub b y hj
   rw [hb] at this;cases this
   obtain ⟨h1,h2⟩:=h.new b x hj hn
   exact ⟨h1,h2.imp id fun ⟨c,y,a,e,f⟩=>⟨c,y,a,yn hl e,f⟩⟩
  | none =>
   obtain ⟨h1,h2⟩:=h'.new b x hb hj
   refine ⟨yn h.size h1,?_⟩
   rcases h2 with h2 | ⟨c,y,h3,h4,h5,h6⟩
   ·exact .inl (yn h.heap h2)
   ·cases hjc:j c with
    | some z =>
     have:=h.sub c z hjc
     rw [h3] at this;cases this
     exact .inr ⟨c,y,hjc,h4,h.dead c (hd c y hjc) h5,h6⟩
    | none =>
     obtain ⟨_,h7⟩:=h.new c y h3 hjc
     rcases h7 with h7 | ⟨d,z,h8,h9,h10,h11⟩
     ·exact .inl (by omega)
     ·exact .inr ⟨d,z,h8,yn hl h9,h10,h11.trans h6⟩
def Inj.ext (j:Inj) (b:Nat) (x:JB):Inj:=fun c=>if c=b then some x else j c
theorem ext_le {j:Inj} {b:Nat} {x:JB} (h:j b=none):Le j (j.ext b x):=fun c y hc=>by
 unfold Inj.ext;split
 ·rename_i e;subst e;rw [h] at hc;cases hc
 ·exact hc
theorem z1O (j:Inj) (b:Nat) (x:JB):j.ext b x b=some x:=by simp [Inj.ext]
theorem Sim.fresh {G:Good} {j:Inj} {S:St} {w:World} (h:Sim G j S w) {b:Nat} (hb:S.size≤b):j b=none:=by
 cases hj:j b with
 | none=>rfl
 | some x=>have:=(h.dom b x hj).1;omega
theorem z3z {S:St} {o:Yg} {b:Nat} (hb:b≠S.size):live (S.new o) b ↔ live S b:=by
 simp only [live,St.new,Tr.get_set,if_neg hb]
theorem z0j {S:St} {o:Yg} {b:Nat}:(S.new o).heap.get b=if b=S.size then some o else S.heap.get b:=Tr.get_set _ _ _ _
theorem get_put {S:St} {o:Yg} {c b:Nat}:(S.put c o).heap.get b=if b=c then some o else S.heap.get b:=Tr.get_set _ _ _ _
theorem Sim.new {G:Good} {j:Inj} {S:St} {w:World} (h:Sim G j S w) (x:JB) {o:Yg} {o':Obj} (hx:x.blk=w.heap.size) (ho:ORel G (j.ext S.size x) x o o') :
  Sim G (j.ext S.size x) (S.new o) (w.alloc o')∧∀ lo,Ext lo j S w (j.ext S.size x) (S.new o) (w.alloc o'):=by
 have hn:=h.fresh (ym _)
 have hle:=ext_le (x:=x) hn
 have hw:(w.alloc o').heap.size=w.heap.size+1:=Array.size_push _
 have hold:∀ c,c<w.heap.size→(w.alloc o').heap[c]? = w.heap[c]? :=fun c hc=>by
  show (w.heap.push o')[c]? = _
  rw [Array.getElem?_push,if_neg (Nat.ne_of_lt hc)]
 suffices key:Sim3 G (j.ext S.size x) (S.new o) (w.alloc o')∧∀ lo,Ext lo j S w (j.ext S.size x) (S.new o) (w.alloc o') from ⟨key.1.sim (h.rom.ext h.dom (key.2 0)),key.2⟩
 refine ⟨⟨?_,?_,?_⟩,fun lo=>⟨hle,Nat.le_succ _,by omega,?_,?_,fun c hc _=>hold c hc,?_,(fun b h1 h2=>⟨x,by
  have:b=S.size:=by
   have h3:b<S.size+1:=h2
   omega
  rw [this];exact z1O _ _ _⟩),⟨rfl,rfl,rfl⟩⟩⟩
 ·intro b y hb
  simp only [Inj.ext] at hb
  show b<S.size+1∧_
  split at hb
  ·cases hb;exact ⟨by omega,by omega⟩
  ·have:=h.dom b y hb;exact ⟨by omega,by omega⟩
 ·intro b y p hb hp
  simp only [Inj.ext] at hb
  rw [z0j] at hp
  split at hb
  ·rename_i e
   cases hb
   rw [if_pos e] at hp;cases hp
   refine ⟨o',?_,ho⟩
   show (w.heap.push o')[x.blk]? = _
   rw [hx,Array.getElem?_push,if_pos rfl]
  ·rename_i e
   rw [if_neg e] at hp
   obtain ⟨p',h1,h2⟩:=h.objs b y p hb hp
   exact ⟨p',by rw [hold _ (h.dom b y hb).2];exact h1,h2.mono hle⟩
 ·intro b c y z hb hc lb lc e
  simp only [Inj.ext] at hb hc
  split at hb <;> split at hc
  ·omega
  ·cases hb;have:=(h.dom c z hc).2;omega
  ·cases hc;have:=(h.dom b y hb).2;omega
  ·exact h.inj b c y z hb hc ((z3z ‹_›).1 lb) ((z3z ‹_›).1 lc) e
 ·intro b hb hl
  exact (z3z (Nat.ne_of_lt hb)).1 hl
 ·intro b hb _
  rw [z0j,if_neg (Nat.ne_of_lt hb)]
 ·intro b y hb hn'
  simp only [Inj.ext] at hb
  split at hb
  ·cases hb;rename_i e;exact ⟨by omega,.inl (by omega)⟩
  ·rw [hb] at hn';cases hn'
theorem Sim.newTo {G:Good} {j:Inj} {S:St} {w w':World} (h:Sim G j S w) (x:JB) {o:Yg} {o':Obj} (hx:w.heap.size≤x.blk) (hsz:w.heap.size≤w'.heap.size) (hold:∀ c,c<w.heap.size→w'.heap[c]? = w.heap[c]?) (hw:w'.heap[x.blk]? = some o') (hio:SameIo w w') (ho:ORel G (j.ext S.size x) x o o') :
  Sim G (j.ext S.size x) (S.new o) w'∧∀ lo,Ext lo j S w (j.ext S.size x) (S.new o) w':=by
 have hn:=h.fresh (ym _)
 have hle:=ext_le (x:=x) hn
 have hlt:x.blk<w'.heap.size:=(Array.getElem?_eq_some_iff.1 hw).1
 suffices key:Sim3 G (j.ext S.size x) (S.new o) w'∧∀ lo,Ext lo j S w (j.ext S.size x) (S.new o) w' from ⟨key.1.sim (h.rom.ext h.dom (key.2 0)),key.2⟩
 refine ⟨⟨?_,?_,?_⟩,fun lo=>⟨hle,Nat.le_succ _,hsz,?_,?_,fun c hc _=>hold c hc,?_,(fun b h1 h2=>⟨x,by
  have:b=S.size:=by
   have h3:b<S.size+1:=h2
   omega
  rw [this];exact z1O _ _ _⟩),hio⟩⟩
 ·intro b y hb
  simp only [Inj.ext] at hb
  show b<S.size+1∧_
  split at hb
  ·cases hb;exact ⟨by omega,hlt⟩
  ·have:=h.dom b y hb;exact ⟨by omega,by omega⟩
 ·intro b y p hb hp
  simp only [Inj.ext] at hb
  rw [z0j] at hp
  split at hb
  ·rename_i e
   cases hb
   rw [if_pos e] at hp;cases hp
   exact ⟨o',hw,ho⟩
  ·rename_i e
   rw [if_neg e] at hp
   obtain ⟨p',h1,h2⟩:=h.objs b y p hb hp
   exact ⟨p',by rw [hold _ (h.dom b y hb).2];exact h1,h2.mono hle⟩
 ·intro b c y z hb hc lb lc e
  simp only [Inj.ext] at hb hc
  split at hb <;> split at hc
  ·omega
  ·cases hb;have:=(h.dom c z hc).2;omega
  ·cases hc;have:=(h.dom b y hb).2;omega
  ·exact h.inj b c y z hb hc ((z3z ‹_›).1 lb) ((z3z ‹_›).1 lc) e
 ·intro b hb hl
  exact (z3z (Nat.ne_of_lt hb)).1 hl
 ·intro b hb _
  rw [z0j,if_neg (Nat.ne_of_lt hb)]
 ·intro b y hb hn'
  simp only [Inj.ext] at hb
  split at hb
  ·cases hb;rename_i e;exact ⟨by omega,.inl (by omega)⟩
  ·rw [hb] at hn';cases hn'
theorem Sim.heap_eq {G:Good} {j:Inj} {S:St} {w w':World} (h:Sim G j S w) (he:w'.heap=w.heap):Sim G j S w' :=
 ⟨fun b x hb=>by rw [he];exact h.dom b x hb,fun b x o hb ho=>by rw [he];exact h.objs b x o hb ho,h.inj,h.rom.heap_eq he⟩
theorem Ext.heap_eq {lo:Nat} {j j':Inj} {S S':St} {w w₁ w':World} (h:Ext lo j S w₁ j' S' w') (he:w₁.heap=w.heap) (hio:SameIo w w₁):Ext lo j S w j' S' w' :=
 ⟨h.sub,h.size,by rw [←he];exact h.heap,h.dead,h.lfr,fun c hc hf=>by rw [←he];exact h.fr c (by rw [he];exact hc) hf,fun b x hb hn=>by rw [←he];exact h.new b x hb hn,h.all,hio.trans h.io⟩
theorem Sim.put {G:Good} {j:Inj} {S:St} {w w':World} (h:Sim G j S w) {b:Nat} {x:JB} {o:Yg} {o':Obj} (hb:j b=some x) (hl:live S b)
  (hs:w'.heap.size=w.heap.size) (hw:w'.heap[x.blk]? = some o') (hoth:∀ c,c≠x.blk→w'.heap[c]? = w.heap[c]?) (ho:ORel G j x o o') (hio:SameIo w w':=by exact ⟨rfl,rfl,rfl⟩) :
  Sim G j (S.put b o) w'∧∀ lo,lo≤b→Ext lo j S w j (S.put b o) w':=by
 have hlive:∀ c,c≠b→live (S.put b o) c→live S c:=fun c hc hv=>by
  obtain ⟨p,hp,hd⟩:=hv
  rw [get_put,if_neg hc] at hp
  exact ⟨p,hp,hd⟩
 suffices key:Sim3 G j (S.put b o) w'∧∀ lo,lo≤b→Ext lo j S w j (S.put b o) w' from ⟨key.1.sim (h.rom.ext h.dom (key.2 0 (yu _))),key.2⟩
 refine ⟨⟨?_,?_,?_⟩,fun lo hlo=>⟨Le.refl j,ym _,Nat.le_of_eq hs.symm,?_,?_,?_,(fun c y hc hn=>by rw [hc] at hn;cases hn),(fun b h1 h2=>by
  have h3:b<S.size:=h2
  omega),hio⟩⟩
 ·intro c y hc;rw [hs];exact h.dom c y hc
 ·intro c y p hc hp
  rw [get_put] at hp
  by_cases e:c=b
  ·subst e
   rw [if_pos rfl] at hp;cases hp
   rw [hb] at hc;cases hc
   exact ⟨o',hw,ho⟩
  ·rw [if_neg e] at hp
   cases hp':p with
   | dead =>
    have:=(h.dom c y hc).2
    exact ⟨w'.heap[y.blk]'(by omega),by rw [Array.getElem?_eq_getElem],trivial⟩
   | _ =>
    all_goals
     obtain ⟨p',h1,h2⟩:=h.objs c y p hc hp
     refine ⟨p',?_,hp' ▸ h2⟩
     rw [hoth,h1]
     exact fun e'=>e (h.inj c b y x hc hb ⟨p,hp,by rw [hp'];simp⟩ hl e')
 ·intro c d y z hc hd lc ld e
  have:∀ c,live (S.put b o) c→live S c:=fun c hv=>by
   by_cases e:c=b
   ·rw [e];exact hl
   ·exact hlive c e hv
  exact h.inj c d y z hc hd (this c lc) (this d ld) e
 ·intro c _ hv
  by_cases e:c=b
  ·rw [e];exact hl
  ·exact hlive c e hv
 ·intro c _ hc;rw [get_put,if_neg (by omega)]
 ·intro c hc hf;exact hoth c fun e=>hf b x hb hlo hl e.symm
theorem Sim.kill {G:Good} {j:Inj} {S:St} {w:World} (h:Sim G j S w) {b:Nat} {x:JB} (hb:j b=some x) (hl:live S b) :
  Sim G j (S.put b .dead) w∧∀ lo,lo≤b→Ext lo j S w j (S.put b .dead) w :=
 have hlt:=(h.dom b x hb).2
 h.put hb hl rfl (o':=w.heap[x.blk]) (by rw [Array.getElem?_eq_getElem]) (fun _ _=>rfl) trivial
theorem Sim.turn {G:Good} {j:Inj} {S:St} {w w':World} (h:Sim G j S w) {b:Nat} {x y:JB} {o:Yg} {o':Obj} (hb:j b=some x) (hl:live S b) (hy:y.blk=x.blk)
  (hs:w'.heap.size=w.heap.size) (hw:w'.heap[x.blk]? = some o') (hoth:∀ c,c≠x.blk→w'.heap[c]? = w.heap[c]?) (ho:ORel G (j.ext S.size y) y o o') (hio:SameIo w w':=by exact ⟨rfl,rfl,rfl⟩) :
  Sim G (j.ext S.size y) ((S.put b .dead).new o) w'∧∀ lo,lo≤b→Ext lo j S w (j.ext S.size y) ((S.put b .dead).new o) w':=by
 obtain ⟨h1,h2⟩:=h.put hb hl hs hw hoth (o:=.dead) trivial hio
 have hn:=h.fresh (ym _)
 have hle:=ext_le (x:=y) hn
 have hbs:=(h.dom b x hb).1
 have hblk:=(h.dom b x hb).2
 have hget:∀ c,((S.put b .dead).new o).heap.get c=if c=S.size then some o else (S.put b .dead).heap.get c:=fun c=>z0j
 have hlv:∀ c,c≠S.size→(live ((S.put b .dead).new o) c ↔ live (S.put b .dead) c):=fun c hc=>z3z hc
 have hndead:¬ live (S.put b .dead) b:=by
  rintro ⟨p,hp,hd⟩
  rw [get_put,if_pos rfl] at hp;cases hp;exact hd rfl
 suffices key:Sim3 G (j.ext S.size y) ((S.put b .dead).new o) w'∧∀ lo,lo≤b→Ext lo j S w (j.ext S.size y) ((S.put b .dead).new o) w' from ⟨key.1.sim (h.rom.ext h.dom (key.2 0 (yu _))),key.2⟩
 refine ⟨⟨?_,?_,?_⟩,fun lo hlo=>?_⟩
 ·intro c z hc
  simp only [Inj.ext] at hc
  show c<S.size+1∧_
  split at hc
  ·cases hc;exact ⟨by omega,by rw [hs];omega⟩
  ·have:=h1.dom c z hc;exact ⟨Nat.lt_succ_of_lt this.1,this.2⟩
 ·intro c z p hc hp
  simp only [Inj.ext] at hc
  rw [hget] at hp
  split at hc
  ·rename_i e
   rw [if_pos e] at hp;cases hp;cases hc
   exact ⟨o',by rw [hy];exact hw,ho⟩
  ·rename_i e
   rw [if_neg e] at hp
   obtain ⟨p',a,c'⟩:=h1.objs c z p hc hp
   exact ⟨p',a,c'.mono hle⟩
 ·intro c d z u hc hd lc ld e
  simp only [Inj.ext] at hc hd
  split at hc <;> split at hd
  ·omega
  ·cases hc
   rename_i e2
   have ld':=(hlv d e2).1 ld
   have ld2:live S d:=by
    by_cases e3:d=b
    ·rw [e3];exact hl
    ·obtain ⟨p,hp,hd'⟩:=ld'
     rw [get_put,if_neg e3] at hp;exact ⟨p,hp,hd'⟩
   have:=h.inj b d x u hb hd hl ld2 (by rw [←hy];exact e)
   subst this
   exact absurd ld' hndead
  ·cases hd
   rename_i e1 _
   have lc':=(hlv c e1).1 lc
   have lc2:live S c:=by
    by_cases e3:c=b
    ·rw [e3];exact hl
    ·obtain ⟨p,hp,hd'⟩:=lc'
     rw [get_put,if_neg e3] at hp;exact ⟨p,hp,hd'⟩
   have:=h.inj b c x z hb hc hl lc2 (by rw [←hy];exact e.symm)
   subst this
   exact absurd lc' hndead
  ·rename_i e1 e2
   exact h1.inj c d z u hc hd ((hlv c e1).1 lc) ((hlv d e2).1 ld) e
 ·have h3:=h2 lo hlo
  refine ⟨hle,Nat.le_succ _,h3.heap,fun c hc hv=>h3.dead c hc ((hlv c (Nat.ne_of_lt hc)).1 hv),fun c hc hlc=>?_,h3.fr,fun c z hc hn'=>?_,(fun c h4 h5=>⟨y,by
   have:c=S.size:=by
    have h6:c<S.size+1:=h5
    omega
   rw [this];exact z1O _ _ _⟩),h3.io⟩
  ·rw [hget,if_neg (Nat.ne_of_lt hc)];exact h3.lfr c hc hlc
  ·simp only [Inj.ext] at hc
   split at hc
   ·cases hc;rename_i e;exact ⟨by omega,.inr ⟨b,x,hb,hlo,hl,hy.symm⟩⟩
   ·rw [hc] at hn';cases hn'
theorem z8 {α β : Type} {x:Option α} {f : α → Option β} {b : β} (h:ob x f=some b):∃ a,x=some a∧f a=some b:=by
 cases x with
 | none=>cases h
 | some a=>exact ⟨a,rfl,h⟩
theorem ze {α : Type} {c:Bool} {x:Option α} {b : α} (h:gd c x=some b):c=true∧x=some b:=by
 cases c with
 | false=>cases h
 | true=>exact ⟨rfl,h⟩
theorem z0l {α : Type} {a:Addr} {x:Option α} {b : α} (h:z3b a x=some b):a.spot=none∧x=some b:=by
 unfold z3b at h
 cases hs:a.spot with
 | none=>rw [hs] at h;exact ⟨rfl,h⟩
 | some _=>rw [hs] at h;cases h
theorem z1e {v:Value} {a:Addr} (h:addrOf v=some a):v = .pointer (some a):=by
 cases v <;> simp only [addrOf] at h <;> first | (cases h;done) | (subst h;rfl)
theorem z5o {v:Value} {b:Bool} (h:z3l v=some b):v = .bool b:=by
 cases v <;> simp only [z3l] at h <;> cases h;rfl
theorem z1H {v:Value} {n:Nat} (h:z3N v=some n):∃ k,v = .int k (n:Int):=by
 cases v with
 | int k m =>
  cases m <;> simp only [z3N] at h <;> cases h
  exact ⟨k,rfl⟩
 | _=>simp only [z3N] at h;cases h
theorem z1i {v:Value} {q:Option Addr×Nat×Nat} (h:z1F v=some q):v = .slice q.1 q.2.1 q.2.2:=by
 cases v <;> simp only [z1F] at h <;> cases h;rfl
theorem zgw {v:Value} {c:Array Value} (h:zog v=some c):v = .agg c:=by
 cases v <;> simp only [zog] at h <;> cases h;rfl
theorem z1G {d:TypeDesc} {e:TypeId} (h:z2H d=some e):d = .slice e:=by
 cases d <;> simp only [z2H] at h <;> cases h;rfl
theorem z6S {d:TypeDesc} {e:Array Field} (h:z6o d=some e):d = .struct e:=by
 cases d <;> simp only [z6o] at h <;> cases h;rfl
theorem z8y {d:TypeDesc} {e:TypeId×TypeId} (h:mapD d=some e):d = .map e.1 e.2:=by
 cases d <;> simp only [mapD] at h <;> cases h;rfl
theorem z0o {v:Value} {r:Nat} (h:z3M v=some r):v = .map (some r):=by
 cases v <;> simp only [z3M] at h <;> first | (cases h;done) | (subst h;rfl)
theorem zdZ {o:Yg} {c:List Value×TypeId} (h:zjg o=some c):o = .cells c.1 c.2:=by
 cases o <;> simp only [zjg] at h <;> cases h;rfl
theorem z3d {o:Yg} {c:List (Value×Value)} (h:z8x o=some c):o = .map c:=by
 cases o <;> simp only [z8x] at h <;> cases h;rfl
theorem zg9 {o:Yg} {q:LoopState×Option Code×Fr×List Tmp×Code×Code} (h:z3e o=some q):o = .loop q.1 q.2.1 q.2.2.1 q.2.2.2.1 q.2.2.2.2.1 q.2.2.2.2.2:=by
 cases o <;> simp only [z3e] at h <;> cases h;rfl
theorem z1J {S:St} {b:Nat} {c:List Value×TypeId} (h:S.cells b=some c):S.heap.get b=some (.cells c.1 c.2):=by
 obtain ⟨o,h1,h2⟩:=z8 h
 rw [h1,zdZ h2]
theorem z0w {a b:Nat} (h:Nat.blt a b=true):a<b:=by
 have:=Nat.le_of_ble_eq_true h;omega
theorem zF {a b:Nat} (h:Nat.ble a b=true):a≤b:=Nat.le_of_ble_eq_true h
theorem zm {a b:Nat} (h:Nat.beq a b=true):a=b:=Nat.eq_of_beq_eq_true h
theorem zko {E:Env} {S:St} {a:Addr} {c:List Value×TypeId} (h:rda E S a=some c):rdc E S a.block=some c∧∀ i,a.spot=some i→S.cells a.block=some c:=by
 unfold rda at h
 cases hs:a.spot with
 | none=>rw [hs] at h;exact ⟨h,fun i hi=>by cases hi⟩
 | some i =>
  rw [hs] at h
  unfold rdc
  cases hr:E.rom.get a.block with
  | none=>rw [hr] at h;exact ⟨h,fun _ _=>h⟩
  | some q=>rw [hr] at h;cases h
structure TiOK (P:Program) (t:TypeId) (x:LTy):Prop where
 info:∃ i,P.info? t=some i∧i.size=x.size∧i.bytes=x.bytes∧i.zero=some x.zero
 und:P.underlying t=some x.desc
 agg:x.agg=z4c x.desc
 lit:litV x.zero=true
 plain:x.plain=true→zhO P t x.desc=true
 known:z8Z P x.desc=true
def zjL (P:Program) (h:FuncId):Prop:=∀ (blk off cap:Nat) (zs:List Int) (w:World) (c:Array Value) (ty:TypeId),zs.length<4611686018427387904→w.heap[blk]? = some (.cells c ty (0,0))→off+zs.length≤c.size →
 (∀ i,i<zs.length→c[off+i]? = some (.int .i64 (zs.getD i 0)))→Calls P h #[.slice (some ⟨blk,off,none⟩) zs.length cap] w fun e w'=>e = .returned (.tuple #[])∧SameIo w w'∧w.heap.size≤w'.heap.size∧(∀ k,k<w.heap.size→k≠blk→w'.heap[k]? = w.heap[k]?) ∧
 ∃ c',w'.heap[blk]? = some (.cells c' ty (0,0))∧c'.size=c.size∧∀ i,i<c.size→c'[i]? = if off≤i∧i<off+zs.length then some (.int .i64 ((z6r zs).getD (i - off) 0)) else c[i]?
def zom (P:Program) (f:FuncId) (elem:TypeId) (sz:Nat):Prop :=
 ∀ (b off n c i vb voff vc:Nat) (old new:List Value) (w:World) (cb cv:Array Value) (tb tv:TypeId),i≤n→0<n→n≤c→n+1≤1048576→old.length=n*sz→new.length=sz→b≠vb →
 w.heap[vb]? = some (.cells cv tv (0,0))→(∀ (q:Nat) (v:Value),new[q]? = some v→cv[voff+q]? = some v)→(∀ v∈new,v.oneCell'=true)→(∀ v∈old,v.oneCell'=true) →
 w.heap[b]? = some (.cells cb tb (0,0))→off+c*sz≤cb.size→(∀ (q:Nat) (v:Value),old[q]? = some v→cb[off+q]? = some v) →
 Calls P f #[.slice (some ⟨b,off,none⟩) n c,.int .i64 i,.slice (some ⟨vb,voff,none⟩) 1 vc] w fun ex w' =>
  (n+1≤c∧∃ cb':Array Value,ex = .returned (.slice (some ⟨b,off,none⟩) (n+1) c)∧SameIo w w'∧w'.heap.size=w.heap.size∧(∀ k,k≠b→w'.heap[k]? = w.heap[k]?)∧w'.heap[b]? = some (.cells cb' tb (0,0))∧cb'.size=cb.size∧∀ (q:Nat) (v:Value),(z6D sz i old new)[q]? = some v→cb'[off+q]? = some v) ∨
  (∃ (g:Nat) (row:Array Value),n+1≤g∧ex = .returned (.slice (some ⟨w.heap.size,0,none⟩) (n+1) g)∧SameIo w w'∧w'.heap=w.heap.push (.cells row elem (0,0))∧g*sz≤row.size∧∀ (q:Nat) (v:Value),(z6D sz i old new)[q]? = some v→row[q]? = some v)
def zqm (P:Program) (f:FuncId) (elem:TypeId) (sz:Nat):Prop :=
 ∀ (base:Option Addr) (vb voff vc:Nat) (new:List Value) (w:World) (cv:Array Value) (tv:TypeId),new.length=sz →
 w.heap[vb]? = some (.cells cv tv (0,0))→(∀ (q:Nat) (v:Value),new[q]? = some v→cv[voff+q]? = some v)→(∀ v∈new,v.oneCell'=true) →
 Calls P f #[.slice base 0 0,.int .i64 0,.slice (some ⟨vb,voff,none⟩) 1 vc] w fun ex w' =>
  ∃ (g:Nat) (row:Array Value),1≤g∧ex = .returned (.slice (some ⟨w.heap.size,0,none⟩) 1 g)∧SameIo w w'∧w'.heap=w.heap.push (.cells row elem (0,0))∧g*sz≤row.size∧∀ (q:Nat) (v:Value),new[q]? = some v→row[q]? = some v
structure Yj (G:Good):Prop where
 mixed:G.P.follows .mixedOrders=true
 ti:∀ t x,G.E.ti.get t=some x→TiOK G.P t x
 hook : ∀ h, G.E.hook = some h → (∃ fn, G.P.funcs[h]? = some fn ∧ (fn.name == "runtime.NumGoroutine") = false ∧ fn.body.isSome = true) ∧
  ∀ w,Calls G.P h #[] w fun e w'=>e = .returned (.bool true)∧SameIo w w'∧w.heap.size≤w'.heap.size∧∀ c,c<w.heap.size→w'.heap[c]? = w.heap[c]?
 sort : ∀ h, G.E.sort = some h → (∃ fn, G.P.funcs[h]? = some fn ∧ (fn.name == "runtime.NumGoroutine") = false ∧ fn.body.isSome = true) ∧ (∀ p cap w, Calls G.P h #[.slice p 0 cap] w fun e w' => e = .returned (.tuple #[]) ∧ w' = w) ∧ zjL G.P h
 ins : ∀ h t, G.E.ins = some (h, t) → (∃ fn, G.P.funcs[h]? = some fn ∧ (fn.name == "runtime.NumGoroutine") = false ∧ fn.body.isSome = true) ∧ ∀ e, G.E.ti.get t = some e → zom G.P h t e.size ∧ zqm G.P h t e.size
 orc : ∀ f args S v, z2z G.E f = true → G.E.orc f args S = some v → (∃ fn, G.P.funcs[f]? = some fn ∧ (fn.name == "runtime.NumGoroutine") = false ∧ fn.body.isSome = true) ∧ litV v = true ∧
  ∀ j (args':Array Value) w,Sim G j S w→Yh j args args'.toList→Calls G.P f args' w fun e w'=>e = .returned v∧SameIo w w'∧w.heap.size≤w'.heap.size∧∀ c,c<w.heap.size→w'.heap[c]? = w.heap[c]?
 lkf : ∀ f args S q, zkW G.E f = true → G.E.lkf f args S = some q → (∃ fn, G.P.funcs[f]? = some fn ∧ (fn.name == "runtime.NumGoroutine") = false ∧ fn.body.isSome = true) ∧ (∀ v ∈ q.2.1, litV v = true) ∧
  ∀ j (args':Array Value) w,Sim G j S w→Yh j args args'.toList→Calls G.P f args' w fun ex w'=>SameIo w w'∧w.heap.size≤w'.heap.size∧(∀ c,c<w.heap.size→w'.heap[c]? = w.heap[c]?) ∧
   ((q.1=0∧ex = .returned (.slice none 0 0))∨(q.1≠0∧∃ e b g row,G.E.ti.get q.2.2=some e∧q.2.1.length=q.1*e.size∧w.heap.size≤b∧ex = .returned (.slice (some ⟨b,0,none⟩) q.1 g)∧q.1≤g∧w'.heap[b]? = some (.cells row q.2.2 (0,0))∧g*e.size≤row.size∧∀ (i:Nat) (v:Value),q.2.1[i]? = some v→row[i]? = some v))
 fns : ∀ f fn, G.E.fns.get f = some fn → G.P.funcs[f]? = some fn ∧ (fn.name == "runtime.NumGoroutine") = false ∧ ∀ c, fn.body = some c → z7P c = true
section
variable {P:Program} {w:World} {t:TypeId} {x:LTy}
theorem TiOK.run_und (h:TiOK P t x) (w:World):(underlying t).run P w = .ok x.desc w:=run_underlying h.und w
theorem TiOK.run_size (h:TiOK P t x) (w:World):(sizeOf t).run P w = .ok x.size w:=by
 obtain ⟨i,hi,h1,_⟩:=h.info
 simp [sizeOf,typeInfo,hi,h1]
theorem TiOK.run_zero (h:TiOK P t x) (w:World):(zeroValue t).run P w = .ok x.zero w:=by
 obtain ⟨i,hi,_,_,h1⟩:=h.info
 simp [zeroValue,typeInfo,hi,h1]
theorem TiOK.run_info (h:TiOK P t x) (w:World):∃ i,(typeInfo t).run P w = .ok i w∧i.bytes=x.bytes∧i.size=x.size:=by
 obtain ⟨i,hi,h1,h2,_⟩:=h.info
 exact ⟨i,by simp [typeInfo,hi],h2,h1⟩
theorem TiOK.run_agg (h:TiOK P t x) (w:World):(isAgg t).run P w = .ok x.agg w:=by
 rw [h.agg]
 simp only [isAgg,Sem.run_bind,h.run_und,Result.andThen_ok]
 cases x.desc <;> rfl
end
def zO (G:Good) (r:Result Next) (v:Value) (j:Inj) (S:St) (w:World) (S':St):Prop :=
 ∃ v' w' j',(r = .ok (.value v') w'∨(r = .ok .skip w'∧v'=undef))∧Yf j' v v'∧Sim G j' S' w'∧Ext S'.low j S w j' S' w'∧S'.low≤S.low
section
variable {G:Good} {j:Inj} {S S':St} {w:World} {v:Value}
theorem z1W {r:Result Next} {v':Value} (hs:Sim G j S w) (hv:Yf j v v') (h:r = .ok (.value v') w):zO G r v j S w S :=
 ⟨v',w,j,.inl h,hv,hs,Ext.refl _ _ _ _,ym _⟩
theorem z03 {s:Sem Value} {v':Value} (hs:Sim G j S w) (hv:Yf j v v') (h:s.run G.P w = .ok v' w) :
  zO G ((do pure (Next.value (←s)):Sem Next).run G.P w) v j S w S:=z1W hs hv (by simp [h])
theorem z1T {x:Option Value} {r:Value×St} (h:zG S x=some r):x=some r.1∧r.2=S:=by
 obtain ⟨v,h1,h2⟩:=z8 h
 cases h2;exact ⟨h1,rfl⟩
theorem z2l (a:Addr) (hs:a.spot=none) (n:Nat):a.add n=⟨a.block,a.off+n,none⟩:=by
 unfold Addr.add;split
 ·rename_i h;subst h;cases a;simp_all
 ·rfl
theorem z3E {c d:List Value} {off n:Nat} (h:cut c off n=some d):off+n≤c.length∧d=(c.drop off).take n:=by
 obtain ⟨h1,h2⟩:=ze h
 cases h2;exact ⟨zF h1,rfl⟩
theorem z4s {c d vs:List Value} {off:Nat} (h:paste c off vs=some d):off+vs.length≤c.length∧d=c.take off++vs++c.drop (off+vs.length):=by
 obtain ⟨h1,h2⟩:=ze h
 cases h2;exact ⟨zF h1,rfl⟩
theorem z6X {c d vs:List Value} {off:Nat} (h:paste c off vs=some d):d.length=c.length:=by
 obtain ⟨h1,rfl⟩:=z4s h
 simp;omega
theorem z2S {c vs:List Value} {off:Nat} (h:off+vs.length≤c.length) (i:Nat) :
  (c.take off++vs++c.drop (off+vs.length))[i]? = if off≤i∧i<off+vs.length then vs[i - off]? else c[i]? :=by
 by_cases h1:i<off
 ·rw [if_neg (by omega),List.append_assoc,List.getElem?_append_left (by simp;omega),List.getElem?_take,if_pos h1]
 ·by_cases h2:i<off+vs.length
  ·rw [if_pos ⟨by omega,h2⟩,List.getElem?_append_left (by simp;omega),List.getElem?_append_right (by simp;omega)]
   simp [Nat.min_eq_left (show off≤c.length by omega)]
  ·rw [if_neg (by omega),List.getElem?_append_right (by simp;omega)]
   simp only [List.length_append,List.length_take,List.getElem?_drop]
   congr 1
   omega
theorem Sim.row (hs:Sim G j S w) {b:Nat} {x:JB} {c:List Value×TypeId} (hx:j b=some x) (hc:S.cells b=some c) :
  ∃ c' e',w.heap[x.blk]? = some (.cells c' e' (0,0))∧c'.size=x.csize∧x.delta+c.1.length≤x.csize∧(∀ t,G.E.ti.get c.2=some t→t.size=x.esize) ∧
   ∀ (i:Nat) (v:Value),c.1[i]? = some v→∃ v':Value,c'[x.delta+i]? = some v'∧Yf j v v':=by
 obtain ⟨o',h1,c',e',h2,h3,h4,h5,h6⟩:=hs.objs b x _ hx (z1J hc)
 exact ⟨c',e',by rw [h1,h2],h3,h4,h5,h6⟩
theorem Sim.rowR (hs:Sim G j S w) {b:Nat} {x:JB} {c:List Value×TypeId} (hx:j b=some x) (hc:rdc G.E S b=some c) (hne:c.1≠[]) :
  ∃ c' e' fr,w.heap[x.blk]? = some (.cells c' e' fr)∧c'.size=x.csize∧x.delta+c.1.length≤x.csize∧(∀ t,G.E.ti.get c.2=some t→t.size=x.esize) ∧
   ∀ (i:Nat) (v:Value),c.1[i]? = some v→∃ v':Value,c'[x.delta+i]? = some v'∧Yf j v v':=by
 unfold rdc at hc
 cases hr:G.E.rom.get b with
 | none =>
  rw [hr] at hc
  obtain ⟨c',e',h⟩:=hs.row hx hc
  exact ⟨c',e',_,h⟩
 | some c0 =>
  rw [hr] at hc
  cases hc
  obtain ⟨y,hy,h,_⟩:=hs.rom b _ hr
  rw [hx] at hy;cases hy
  exact h hne
theorem zhD {c':Array Value} {c:List Value} {δ : Nat} (h:∀ (i:Nat) (v:Value),c[i]? = some v→∃ v':Value,c'[δ + i]? = some v'∧Yf j v v') {off n:Nat} (hn:off+n≤c.length) :
  Yh j ((c.drop off).take n) ((List.range n).map fun i=>(c'[δ + off+i]?).getD undef):=by
 refine z7n (by simp;omega) fun i v hi=>?_
 have hin:i<n:=by
  have:=(List.getElem?_eq_some_iff.1 hi).1
  simp at this;omega
 rw [List.getElem?_take,if_pos hin,List.getElem?_drop] at hi
 obtain ⟨v',h1,h2⟩:=h (off+i) v hi
 refine ⟨v',?_,h2⟩
 simp [List.getElem?_map,List.getElem?_range hin,Nat.add_assoc,h1]
theorem Sim.loadsW (hs:Sim G j S w) {b off n:Nat} {x:JB} {c:List Value×TypeId} {d:List Value} (hx:j b=some x) (hc:rdc G.E S b=some c) (hd:cut c.1 off n=some d) {a':Addr}
  (ha:a'=⟨x.blk,off+x.delta,none⟩):∃ d':List Value,(∀ w',w'.heap=w.heap→(loadCells a' n).run G.P w' = .ok d'.toArray w')∧Yh j d d':=by
 obtain ⟨hl,rfl⟩:=z3E hd
 by_cases hn0:n=0
 ·subst hn0
  refine ⟨[],fun w' _=>?_,by simpa using Yh.nil⟩
  simp [loadCells,loadCellsFrom]
 obtain ⟨c',e',fr,h1,h2,h3,h4,h5⟩:=hs.rowR hx hc (fun e=>by rw [e] at hl;simp at hl;omega)
 refine ⟨_,fun w' hw'=>run_loadCells w' a' n (fun i=>(c'[x.delta+off+i]?).getD undef) ?_,zhD h5 hl⟩
 intro i hi
 subst ha
 rw [z2l _ rfl]
 simp only [World.cell?,hw',h1]
 have:(c.1[off+i]?).isSome:=by simp;omega
 obtain ⟨v,hv⟩:=Option.isSome_iff_exists.1 this
 obtain ⟨v',h6,_⟩:=h5 _ v hv
 rw [←Nat.add_assoc] at h6
 simp [h6,Nat.add_comm off x.delta]
theorem Sim.loads (hs:Sim G j S w) {b off n:Nat} {x:JB} {c:List Value×TypeId} {d:List Value} (hx:j b=some x) (hc:rdc G.E S b=some c) (hd:cut c.1 off n=some d) {a':Addr}
  (ha:a'=⟨x.blk,off+x.delta,none⟩):∃ d':List Value,(loadCells a' n).run G.P w = .ok d'.toArray w∧Yh j d d' :=
 let ⟨d',h1,h2⟩:=hs.loadsW hx hc hd ha;⟨d',h1 w rfl,h2⟩
theorem Sim.load_var (hG:Yj G) (hs:Sim G j S w) {t:TypeId} {a a':Addr} (ha:ARel j a a') (h:z0e G.E t a S=some v):∃ v',(loadVar t a').run G.P w = .ok v' w∧Yf j v v':=by
 obtain ⟨i,hi,h⟩:=z8 h
 have ti:=hG.ti t i hi
 obtain ⟨hsp,x,hx,rfl⟩:=ha
 simp only [loadVar,Sem.run_bind,ti.run_agg,Result.andThen_ok]
 cases hag:i.agg with
 | true =>
  rw [hag] at h
  obtain ⟨d,hd,h⟩:=z8 h
  cases h
  obtain ⟨_,hd⟩:=z0l hd
  obtain ⟨c,hc,hd⟩:=z8 hd
  obtain ⟨d',h1,h2⟩:=hs.loads hx hc hd rfl
  exact ⟨.agg d'.toArray,by simp [ti.run_size,h1],.agg (by simpa using h2)⟩
 | false =>
  rw [hag] at h
  obtain ⟨_,h⟩:=z0l h
  obtain ⟨c,hc,h⟩:=z8 h
  obtain ⟨c',e',fr,h1,_,_,_,h5⟩:=hs.rowR hx hc (fun e=>by rw [e] at h;simp at h)
  obtain ⟨v',h6,h7⟩:=h5 _ v h
  refine ⟨v',?_,h7⟩
  rw [Nat.add_comm] at h6
  simp [World.cell?,h1,h6]
theorem Sim.paste (hs:Sim G j S w) {b off:Nat} {x:JB} {c:List Value×TypeId} {vs vs' d:List Value} (hx:j b=some x) (hc:S.cells b=some c) (hd:paste c.1 off vs=some d)
  (hv:Yh j vs vs') (hsc:vs.all scalar=true):∃ w',(storeCells ⟨x.blk,off+x.delta,none⟩ vs').run G.P w = .ok () w'∧Sim G j (S.put b (.cells d c.2)) w' ∧
   ∀ lo,lo≤b→Ext lo j S w j (S.put b (.cells d c.2)) w':=by
 obtain ⟨c',e',h1,h2,h3,h4,h5⟩:=hs.row hx hc
 have hdl:=z6X hd
 obtain ⟨hl,rfl⟩:=z4s hd
 have hlen:=hv.length
 have hone:∀ v∈vs',v.oneCell'=true:=by
  intro v' hv'
  obtain ⟨i,hi⟩:=List.mem_iff_getElem?.1 hv'
  have hil:i<vs.length:=by have:=(List.getElem?_eq_some_iff.1 hi).1;omega
  obtain ⟨u,hu,hr⟩:=hv.get (List.getElem?_eq_getElem hil)
  rw [hi] at hu;cases hu
  rw [hr.scalar]
  exact List.all_eq_true.1 hsc _ (List.getElem_mem hil)
 have hst:=run_storeCells_at G.P x.blk (off+x.delta) e' vs' 0 c' w h1 (by omega) hone
 refine ⟨_,hst,hs.put hx ⟨_,z1J hc,by simp⟩ (setRow_size _ _ _) (setRow_heap _ _ _ _ _ _ h1) (fun k hk=>setRow_other _ _ _ _ hk) ?_⟩
 have hfit:off+x.delta+vs'.length≤c'.toList.length:=by simp;omega
 refine ⟨_,e',rfl,?_,by rw [hdl];exact h3,h4,?_⟩
 ·simp only [List.size_toArray,Nat.add_zero];simp;omega
 ·intro i v hi
  rw [z2S hl] at hi
  simp only [Nat.add_zero,List.getElem?_toArray]
  rw [z2S hfit]
  by_cases hin:off≤i∧i<off+vs.length
  ·rw [if_pos hin] at hi
   rw [if_pos (by omega),show x.delta+i - (off+x.delta)=i - off by omega]
   exact hv.get hi
  ·rw [if_neg hin] at hi
   rw [if_neg (by omega),Array.getElem?_toList]
   exact h5 i v hi
theorem Sim.store_var (hG:Yj G) (hs:Sim G j S w) {t:TypeId} {a a':Addr} {v':Value} (ha:ARel j a a') (hv:Yf j v v') (h:z0Y G.E t a v S=some S') :
  ∃ w',(storeVar t a' v').run G.P w = .ok () w'∧Sim G j S' w'∧Ext S'.low j S w j S' w'∧S'.low≤S.low:=by
 obtain ⟨i,hi,h⟩:=z8 h
 have ti:=hG.ti t i hi
 obtain ⟨hsz,h⟩:=ze h
 obtain ⟨hsp,h⟩:=z0l h
 obtain ⟨c,hc,h⟩:=z8 h
 obtain ⟨hsc,h⟩:=ze h
 obtain ⟨d,hd,h⟩:=z8 h
 cases h
 obtain ⟨_,x,hx,rfl⟩:=ha
 obtain ⟨w',h1,h2,h3⟩:=hs.paste hx hc hd hv.cells hsc
 have hl:v.cells.size=v'.cells.size:=by have:=hv.cells.length;simpa using this
 have hsz':=zm hsz
 refine ⟨w',?_,h2,h3 _ (Nat.min_le_left _ _),Nat.min_le_right _ _⟩
 simp only [storeVar,Sem.run_bind,ti.run_size,Result.andThen_ok]
 rw [if_neg (by simp;omega)]
 simpa using h1
noncomputable def esz (G:Good) (e:TypeId):Nat:=((G.E.ti.get e).map (·.size)).getD 0
theorem Sim.newRow (hs:Sim G j S w) {c c1 rest:List Value} (e e':TypeId) (hc:Yh j c c1) :
  Sim G (j.ext S.size ⟨w.heap.size,0,(c1++rest).length,esz G e⟩) (S.new (.cells c e)) (w.alloc (.cells (c1++rest).toArray e')) ∧
   ∀ lo,Ext lo j S w (j.ext S.size ⟨w.heap.size,0,(c1++rest).length,esz G e⟩) (S.new (.cells c e)) (w.alloc (.cells (c1++rest).toArray e')):=by
 refine hs.new _ rfl ⟨_,e',rfl,by simp,?_,?_,?_⟩
 ·simp only [Nat.zero_add,List.length_append];rw [hc.length];omega
 ·intro t ht;simp [esz,ht]
 ·intro i v hi
  obtain ⟨v',h1,h2⟩:=hc.get hi
  refine ⟨v',?_,h2.mono (ext_le (hs.fresh (ym _)))⟩
  have hlt:i<c1.length:=(List.getElem?_eq_some_iff.1 h1).1
  simp only [Nat.zero_add,List.getElem?_toArray]
  rw [List.getElem?_append_left hlt];exact h1
theorem z7N (hs:Sim G j S w) {c c1 rest:List Value} (e e':TypeId) (hc:Yh j c c1) {r:Result Next} {v v':Value}
  (hr:r = .ok (.value v') (w.alloc (.cells (c1++rest).toArray e')))
  (hv:Yf (j.ext S.size ⟨w.heap.size,0,(c1++rest).length,esz G e⟩) v v'):zO G r v j S w (S.new (.cells c e)) :=
 let ⟨h1,h2⟩:=hs.newRow (rest:=rest) e e' hc
 ⟨v',_,_,.inl hr,hv,h1,h2 _,ym _⟩
theorem zas (j:Inj) (n off:Nat) (x:JB) (hx:x.delta=0):Yf (j.ext n x) (ptr n off) (.pointer (some ⟨x.blk,off,none⟩)):=by
 refine .ptr ⟨rfl,x,z1O _ _ _,?_⟩
 simp [hx]
end
section
variable {G:Good} {j:Inj} {S S':St} {w:World} {v:Value} {T:Fr} {ρ : Operand→Value}
def RelOps (j:Inj) (T:Fr) (ρ : Operand→Value) (l:List Operand):Prop:=∀ x∈l,∀ v,T.ev x=some v→Yf j v (ρ x)
theorem RelOps.mono {l:List Operand} {j':Inj} (h:RelOps j T ρ l) (hj:Le j j'):RelOps j' T ρ l:=fun x hx v hv=>(h x hx v hv).mono hj
theorem RelOps.evs:∀ {l:List Operand} {vs:List Value},RelOps j T ρ l→T.evs l=some vs→Yh j vs (l.map ρ)
 | [],vs,_,h=>by cases h;exact .nil
 | x::l,vs,hr,h=>by
  obtain ⟨v,h1,h⟩:=z8 h
  obtain ⟨us,h2,h⟩:=z8 h
  cases h
  exact .cons (hr x (by simp) v h1) (RelOps.evs (fun y hy=>hr y (by simp [hy])) h2)
theorem Yf.bool_inv {b:Bool} {v':Value} (h:Yf j (.bool b) v'):v' = .bool b:=by cases h;rfl
theorem Yf.int_inv {k:IntKind} {n:Int} {v':Value} (h:Yf j (.int k n) v'):v' = .int k n:=by cases h;rfl
theorem Yf.string_inv {s:ByteArray} {v':Value} (h:Yf j (.string s) v'):v' = .string s:=by cases h;rfl
theorem Yf.ptr_inv {a:Addr} {v':Value} (h:Yf j (.pointer (some a)) v'):∃ a',v' = .pointer (some a')∧ARel j a a':=by cases h;exact ⟨_,rfl,‹_›⟩
theorem Yf.agg_inv {a:Array Value} {v':Value} (h:Yf j (.agg a) v'):∃ a',v' = .agg a'∧Yh j a.toList a'.toList:=by cases h;exact ⟨_,rfl,‹_›⟩
theorem Yf.tuple_inv {a:Array Value} {v':Value} (h:Yf j (.tuple a) v'):∃ a',v' = .tuple a'∧Yh j a.toList a'.toList:=by cases h;exact ⟨_,rfl,‹_›⟩
theorem znf (hs:Sim G j S w) {c a b:Operand} (hr:RelOps j T ρ [c,a,b]) (h:zlS T c a b=some v) :
  zO G ((do pure (Next.value (if ←asBool (ρ c) then ρ a else ρ b)):Sem Next).run G.P w) v j S w S:=by
 obtain ⟨t,h1,h⟩:=z8 h
 obtain ⟨u,h2,h1⟩:=z8 h1
 have:=z5o h1;subst this
 have hc:=(hr c (by simp) _ h2).bool_inv
 rw [hc]
 cases t with
 | true=>exact z1W hs (hr a (by simp) v h) (by simp [asBool])
 | false=>exact z1W hs (hr b (by simp) v h) (by simp [asBool])
theorem zkF (hG:Yj G) (hs:Sim G j S w) {t:TypeId} {r:Value×St} (h:zdn G.E t S=some r) :
  zO G ((do pure (Next.value (←Instr.alloc t true (.tuple #[]))):Sem Next).run G.P w) r.1 j S w r.2:=by
 obtain ⟨i,hi,h⟩:=z8 h
 cases h
 have ti:=hG.ti t i hi
 refine z7N (rest:=[]) hs t t (z1x j ti.lit).cells ?_ (zas _ _ _ _ rfl)
 simp [Instr.alloc,newVar,Go.newRow,ti.run_zero,World.alloc_eq]
theorem zpc (hs:Sim G j S w) {t:TypeId} {x:Operand} {r:Value×St} (hr:RelOps j T ρ [x]) (h:znl T t x S=some r) :
  zO G ((do pure (Next.value (←Instr.box t (ρ x))):Sem Next).run G.P w) r.1 j S w r.2:=by
 obtain ⟨u,hu,h⟩:=z8 h
 cases h
 refine z7N (rest:=[]) hs t t (hr x (by simp) u hu).cells ?_ (zas _ _ _ _ rfl)
 simp [Instr.box,newVar,Go.newRow,World.alloc_eq]
theorem zni (hG:Yj G) (hs:Sim G j S w) {t:TypeId} {a:Operand} (hr:RelOps j T ρ [a]) (h:zi2 G.E T t a S=some v) :
  zO G ((do pure (Next.value (←Instr.loadAt t (ρ a))):Sem Next).run G.P w) v j S w S:=by
 obtain ⟨p,hp,h⟩:=z8 h
 obtain ⟨u,hu,hp⟩:=z8 hp
 have:=z1e hp;subst this
 obtain ⟨a',ha,hrel⟩:=(hr a (by simp) _ hu).ptr_inv
 obtain ⟨v',h1,h2⟩:=hs.load_var hG hrel h
 refine z03 hs h2 ?_
 simp [ha,Instr.loadAt,Instr.sureAddr,h1]
theorem zku (hG:Yj G) (hs:Sim G j S w) {t:TypeId} {a x:Operand} {r:Value×St} (hr:RelOps j T ρ [a,x]) (h:zdm G.E T t a x S=some r) :
  zO G ((do Instr.storeAt t (ρ a) (ρ x);pure Next.skip:Sem Next).run G.P w) r.1 j S w r.2:=by
 obtain ⟨p,hp,h⟩:=z8 h
 obtain ⟨u,hu,hp⟩:=z8 hp
 have:=z1e hp;subst this
 obtain ⟨y,hy,h⟩:=z8 h
 obtain ⟨S1,hS,h⟩:=z8 h
 cases h
 obtain ⟨a',ha,hrel⟩:=(hr a (by simp) _ hu).ptr_inv
 obtain ⟨w',h1,h2,h3,h4⟩:=hs.store_var hG hrel (hr x (by simp) _ hy) hS
 exact ⟨undef,w',j,.inr ⟨by simp [ha,Instr.storeAt,Instr.sureAddr,h1],rfl⟩,.tuple .nil,h2,h3,h4⟩
theorem z4Z {α : Type} {s:Sem α} {a : α} (h:z1s s=some a) (P:Program) (w:World):s.run P w = .ok a w:=by
 cases s <;> simp only [z1s] at h <;> cases h;rfl
theorem znw {op:BinOp} {t:TypeId} {x y:Value} (hb:(Nat.blt (z1B x) 2&&Nat.beq (z1B x) (z1B y))=true) (h:z1s (binOp op t x y)=some v):zii v=true:=by
 cases x <;> simp [z1B] at hb <;> cases y <;> simp [z1B] at hb
 all_goals
  cases op <;> simp only [Go.binOp,Op.shift,Op.intArith,Op.intDiv,Op.intBits,Op.intCmp,Op.stringOp] at h <;>
   (repeat' split at h) <;> first | (cases h;rfl) | (simp [z1s,stuck,unsupported,runtimePanic,bind,Sem.bind,program,pure] at h) | skip
end
section
variable {G:Good} {j:Inj} {S S':St} {w:World} {v:Value} {T:Fr} {ρ : Operand→Value}
theorem zkh {x y:Value} {b:Bool} (h:z2P x y=some b) {d:TypeDesc} (hd:zy d x=true):Instr.sameNow d x y=some b:=by
 cases x <;> cases y <;> simp only [z2P] at h <;> first | (cases h;done) | skip
 all_goals cases d <;> simp only [zy] at hd <;> first | (cases hd;done) | skip
 ·cases h;rfl
 ·obtain ⟨h1,h⟩:=ze h
  cases h
  have:=of_decide_eq_true h1
  simp [Instr.sameNow,this]
 ·cases h;rfl
theorem zbD {x y x' y':Value} {b:Bool} (h:z2P x y=some b) (hx:Yf j x x') (hy:Yf j y y'):x'=x∧y'=y:=by
 cases x <;> cases y <;> simp only [z2P] at h <;> first | (cases h;done) | skip
 all_goals cases hx;cases hy;exact ⟨rfl,rfl⟩
theorem zcw {P:Program} {t:TypeId} {x:LTy} (ti:TiOK P t x) {a b:Value} {r:Bool} (hk:zy x.desc a=true) (h:z2P a b=some r) (d:Nat) (w:World) :
  (Op.equalIn (d+1) t a b).run P w = .ok r w:=by
 simp only [Op.equalIn,Sem.run_bind,ti.run_und,Result.andThen_ok]
 cases a <;> cases b <;> simp only [z2P] at h <;> first | (cases h;done) | skip
 all_goals generalize x.desc=D at hk;cases D <;> simp only [zy] at hk <;> first | (cases hk;done) | skip
 ·cases h;rfl
 ·obtain ⟨h1,h⟩:=ze h
  cases h
  have:=of_decide_eq_true h1
  simp [this]
 ·cases h;rfl
theorem z8E {d:TypeDesc} {v:Value} (h:zy d v=true):z4c d=false:=by
 cases d <;> first | rfl | (cases v <;> simp [zy] at h)
def zaW (d:Nat) (a b:Array Value) (f:Field) (_:Option Bool×Unit):Sem (ForInStep (Option Bool×Unit)) :=
 if f.name ≠ "_" then do
  let x ←part f.type a f.offset
  let y ←part f.type b f.offset
  let r ←Op.equalIn d f.type x y
  if (!r)=true then pure (ForInStep.done (some false,())) else pure (ForInStep.yield (none,()))
 else pure (ForInStep.yield (none,()))
theorem zal {P:Program} {t:TypeId} {x:LTy} (ti:TiOK P t x) (hg:x.agg=false) {cs:Array Value} {off:Nat} {v:Value} (h:cs[off]? = some v) (w:World):(part t cs off).run P w = .ok v w:=by
 simp [part,ti.run_agg,hg,h]
theorem z9y (hG : Yj G) (d : Nat) (a b : Array Value) : ∀ (fs : List Field) (i : Nat) (l m : List Value) (r : Bool), (∀ f ∈ fs, (f.name != "_") = true) → a.toList.drop i = l → b.toList.drop i = m →
  z0r G.E fs i l m=some r→∃ u:Option Bool×Unit,(forIn fs ((none,()):Option Bool×Unit) (zaW (d+1) a b)).run G.P w = .ok u w∧(match u.1 with | some q=>q | none=>true)=r
 | [],i,l,m,r,_,_,_,h=>by
  cases l <;> cases m <;> first | (cases h;done) | skip
  cases h;exact ⟨_,rfl,rfl⟩
 | f::fs,i,l,m,r,hn,hl,hm,h=>by
  cases l with
  | nil=>cases h
  | cons x l'=>cases m with
  | nil=>cases h
  | cons y m' =>
   change (ob (G.E.ti.get f.type) fun ft=>gd (Nat.beq f.offset i&&zy ft.desc x) (ob (z2P x y) fun p=>ob (z0r G.E fs (Nat.succ i) l' m') fun q=>some (p&&q)))=some r at h
   obtain ⟨ft,hft,h⟩:=z8 h
   obtain ⟨hc,h⟩:=ze h
   simp only [yw] at hc
   obtain ⟨p,hp,h⟩:=z8 h
   obtain ⟨q,hq,h⟩:=z8 h
   cases h
   have ti:=hG.ti _ _ hft
   have hof:=zm hc.1
   have hag:ft.agg=false:=by rw [ti.agg];exact z8E hc.2
   have hxa:a[f.offset]? = some x:=by
    rw [hof,←Array.getElem?_toList,←List.head?_drop,hl];rfl
   have hyb:b[f.offset]? = some y:=by
    rw [hof,←Array.getElem?_toList,←List.head?_drop,hm];rfl
   have hne : f.name ≠ "_" := by simpa using hn f (by simp)
   have hrd:(zaW (d+1) a b f (none,())).run G.P w = .ok (if p then ForInStep.yield (none,()) else ForInStep.done (some false,())) w:=by
    simp only [zaW,if_pos hne,Sem.run_bind,zal ti hag hxa,zal ti hag hyb,Result.andThen_ok,zcw ti hc.2 hp]
    cases p <;> simp
   rw [List.forIn_cons,Sem.run_bind,hrd,Result.andThen_ok]
   cases p with
   | false=>exact ⟨(some false,()),rfl,rfl⟩
   | true =>
    simp only [if_true,Bool.true_and]
    refine z9y hG d a b fs (i+1) l' m' q (fun g hg=>hn g (by simp [hg])) ?_ ?_ hq
    ·rw [←List.tail_drop,hl];rfl
    ·rw [←List.tail_drop,hm];rfl
theorem z5b {P:Program} {op:BinOp} {t:TypeId} {x y:Operand} {a b:Value} (h1:¬ (a = .nilIface∧b = .nilIface)) (h2:(∃ c d,a = .agg c∧b = .agg d)→P.eqGuardType P.depth t=false) (w:World) :
  (eqGuard op t x y a b).run P w = .ok () w:=by
 unfold eqGuard
 cases op <;> first | rfl | skip
 all_goals
  cases a <;> cases b <;> first | rfl | (exact absurd ⟨rfl,rfl⟩ h1) | skip
  have:=h2 ⟨_,_,rfl,rfl⟩
  simp [this]
theorem z8F {a b:Option Addr} {r:Bool} (h:zf8 a b=some r):(a=none∧r=b.isNone)∨(b=none∧r=a.isNone):=by
 cases a <;> cases b <;> simp [zf8] at h <;> simp [←h]
theorem zdF {a b:Option Nat} {r:Bool} (h:zis a b=some r):(a=none∧r=b.isNone)∨(b=none∧r=a.isNone):=by
 cases a <;> cases b <;> simp [zis] at h <;> simp [←h]
theorem z5A (hG:Yj G) {t:TypeId} {x y x' y':Value} {r:Bool} (hx:Yf j x x') (hy:Yf j y y') (h:z2e G.E t x y=some r) :
  (Op.equal t x' y').run G.P w = .ok r w∧¬ (x' = .nilIface∧y' = .nilIface)∧((∃ c d,x' = .agg c∧y' = .agg d)→G.P.eqGuardType G.P.depth t=false):=by
 obtain ⟨i,hi,h⟩:=z8 h
 have ti:=hG.ti t i hi
 have hpl:=ti.plain
 show (Op.equalIn (9998+1+1) t x' y').run G.P w=_∧_
 generalize 9998=d
 generalize hd1:d+1=d1
 simp only [Op.equalIn,Sem.run_bind,ti.run_und,Result.andThen_ok]
 unfold z11 at h
 generalize hD:i.desc=D at h hpl
 split at h
 ·cases hx;cases hy;cases h;exact ⟨rfl,by simp,by simp⟩
 ·rename_i e a b
  rcases z8F h with ⟨rfl,rfl⟩ | ⟨rfl,rfl⟩
  ·cases hx;cases hy <;> exact ⟨rfl,by simp,by simp⟩
  ·cases hy;cases hx <;> exact ⟨rfl,by simp,by simp⟩
 ·rename_i e a _ _ b _ _
  rcases z8F h with ⟨rfl,rfl⟩ | ⟨rfl,rfl⟩
  ·cases hx;cases hy <;> exact ⟨rfl,by simp,by simp⟩
  ·cases hy;cases hx <;> exact ⟨rfl,by simp,by simp⟩
 ·rename_i k e a b
  rcases zdF h with ⟨rfl,rfl⟩ | ⟨rfl,rfl⟩
  ·cases hx;cases hy <;> exact ⟨rfl,by simp,by simp⟩
  ·cases hy;cases hx <;> exact ⟨rfl,by simp,by simp⟩
 ·cases hx;cases hy;cases h;exact ⟨rfl,by simp,by simp⟩
 ·cases hx;cases hy;cases h;exact ⟨rfl,by simp,by simp⟩
 ·cases hx;cases hy;cases h;exact ⟨rfl,by simp,by simp⟩
 ·rename_i fs a b _
  obtain ⟨hp,h⟩:=ze h
  have hp:=hpl hp
  simp only [zhO,yw,Bool.not_eq_true'] at hp
  obtain ⟨a',rfl,ha⟩:=hx.agg_inv
  obtain ⟨b',rfl,hb⟩:=hy.agg_inv
  refine ⟨?_,by simp,fun _=>hp.2.1⟩
  have hab:∀ (fs:List Field) (i:Nat) (l m l' m':List Value) (r:Bool),Yh j l l'→Yh j m m'→z0r G.E fs i l m=some r→z0r G.E fs i l' m'=some r:=by
   intro fs
   induction fs with
   | nil =>
    intro i l m l' m' r hl hm h
    cases l <;> cases m <;> first | (cases h;done) | skip
    cases hl;cases hm;exact h
   | cons f fs ih =>
    intro i l m l' m' r hl hm h
    cases hl with
    | nil=>cases h
    | cons hx hl=>cases hm with
     | nil=>cases h
     | cons hy hm =>
       rename_i x x' l l' y y' m m'
       change (ob (G.E.ti.get f.type) fun ft=>gd (Nat.beq f.offset i&&zy ft.desc x) (ob (z2P x y) fun p=>ob (z0r G.E fs (Nat.succ i) l m) fun q=>some (p&&q)))=some r at h
       obtain ⟨ft,hft,h⟩:=z8 h
       obtain ⟨hc,h⟩:=ze h
       obtain ⟨p,hp,h5⟩:=z8 h
       obtain ⟨q,hq,h6⟩:=z8 h5
       obtain ⟨rfl,rfl⟩:=zbD hp hx hy
       show (ob (G.E.ti.get f.type) fun ft=>gd (Nat.beq f.offset i&&zy ft.desc x') (ob (z2P x' y') fun p=>ob (z0r G.E fs (Nat.succ i) l' m') fun q=>some (p&&q)))=some r
       rw [hft]
       show gd (Nat.beq f.offset i&&zy ft.desc x') (ob (z2P x' y') fun p=>ob (z0r G.E fs (Nat.succ i) l' m') fun q=>some (p&&q))=some r
       rw [hc,hp,ih _ _ _ _ _ _ hl hm hq]
       exact h6
  obtain ⟨u,h1,h2⟩:=z9y (w:=w) hG d a' b' fs.toList 0 _ _ r (fun f hf=>List.all_eq_true.1 hp.2.2 f hf) rfl rfl (hab _ _ _ _ _ _ _ ha hb h)
  subst hd1
  simp only [run_program,Result.andThen_ok,hp.1,Bool.false_eq_true,if_false,Sem.run_bind]
  rw [←Array.forIn_toList]
  change ((forIn fs.toList (none,()) (zaW (d+1) a' b')).run G.P w).andThen _=_
  rw [h1,Result.andThen_ok]
  cases hu:u.1 with
  | none=>rw [hu] at h2;simp at h2;subst h2;rfl
  | some q=>rw [hu] at h2;simp at h2;subst h2;rfl
 ·cases h
end
section
variable {G:Good} {j:Inj} {S S':St} {w:World} {v:Value} {T:Fr} {ρ : Operand→Value}
theorem Yf.sort_inv {a a':Value} (h:Yf j a a') (hs:z1B a<2):a'=a:=by cases h <;> first | rfl | (simp [z1B] at hs)
theorem zpd (hG:Yj G) (hs:Sim G j S w) {op:BinOp} {t:TypeId} {x y:Operand} {a b:Value} (ha:Yf j a (ρ x)) (hb:Yf j b (ρ y)) (h:zY G.E op t a b=some v) :
  zO G ((do pure (Next.value (←(do eqGuard op t x y (ρ x) (ρ y);Go.binOp op t (ρ x) (ρ y)))):Sem Next).run G.P w) v j S w S:=by
 unfold zY at h
 cases hc:(Nat.blt (z1B a) 2&&Nat.beq (z1B a) (z1B b)) with
 | true =>
  rw [hc] at h
  change z1s (Go.binOp op t a b)=some v at h
  have hl:=znw hc h
  simp only [yw] at hc
  have h1:=z0w hc.1
  have h2:=zm hc.2
  have e1:=ha.sort_inv h1
  have e2:=hb.sort_inv (by omega)
  refine z03 hs (z4y j hl) ?_
  rw [e1,e2,Sem.run_bind,z5b (w:=w),Result.andThen_ok,z4Z h]
  ·intro h;rw [h.1] at h1;simp [z1B] at h1
  ·rintro ⟨c,d,rfl,rfl⟩;simp [z1B] at h1
 | false =>
  rw [hc] at h
  change zr5 G.E op t a b=some v at h
  have hbin:∀ r,z2e G.E t a b=some r→(op = .eql∨op = .neq)→(Go.binOp op t (ρ x) (ρ y)).run G.P w = .ok (.bool (if op = .eql then r else !r)) w:=by
   intro r hr ho
   obtain ⟨h1,_,_⟩:=z5A (w:=w) hG ha hb hr
   generalize ρ x=x' at ha h1
   generalize ρ y=y' at hb h1
   rcases ho with rfl | rfl
   ·have:Go.binOp .eql t x' y'=(do pure (.bool (←Op.equal t x' y')):Sem Value):=by
     cases ha <;> cases hb <;> first | rfl | (exact Bool.noConfusion (show true=false from hc))
    simp [this,h1]
   ·have:Go.binOp .neq t x' y'=(do pure (.bool (!(←Op.equal t x' y'))):Sem Value):=by
     cases ha <;> cases hb <;> first | rfl | (exact Bool.noConfusion (show true=false from hc))
    simp [this,h1]
  unfold zr5 at h
  split at h
  ·obtain ⟨r,hr,h⟩:=z8 h
   cases h
   obtain ⟨_,h2,h3⟩:=z5A (w:=w) hG ha hb hr
   refine z03 hs (.bool r) ?_
   rw [Sem.run_bind,z5b h2 h3,Result.andThen_ok,hbin r hr (.inl rfl)];rfl
  ·obtain ⟨r,hr,h⟩:=z8 h
   cases h
   obtain ⟨_,h2,h3⟩:=z5A (w:=w) hG ha hb hr
   refine z03 hs (.bool (!r)) ?_
   rw [Sem.run_bind,z5b h2 h3,Result.andThen_ok,hbin r hr (.inr rfl)];rfl
  ·cases h
theorem zqC (hs:Sim G j S w) {op:UnOp} {a a':Value} (ha:Yf j a a') (h:unL op a=some v):zO G ((do pure (Next.value (←Op.unary op a')):Sem Next).run G.P w) v j S w S:=by
 unfold unL at h
 split at h
 ·cases ha
  refine z03 hs (z4y j ?_) (z4Z h _ _)
  cases op <;> simp only [Op.unary,Op.intArith,Op.intBits] at h <;> (repeat' split at h) <;> first | (cases h;rfl) | (simp [z1s,stuck] at h)
 ·cases ha
  refine z03 hs (z4y j ?_) (z4Z h _ _)
  cases op <;> simp only [Op.unary,Op.intArith,Op.intBits] at h <;> (repeat' split at h) <;> first | (cases h;rfl) | (simp [z1s,stuck] at h)
 ·cases h
theorem znk (hG:Yj G) (hs:Sim G j S w) {src dst:TypeId} {si di:LTy} {a a':Value} (h1:G.E.ti.get src=some si) (h2:G.E.ti.get dst=some di) (ha:Yf j a a') (h:z97 di.desc a=some v) :
  zO G ((do pure (Next.value (←convert src dst a')):Sem Next).run G.P w) v j S w S:=by
 have t1:=hG.ti _ _ h1
 have t2:=hG.ti _ _ h2
 unfold z97 at h
 split at h
 ·rename_i k _ n e
  cases ha
  cases h
  refine z03 hs (.int _ _) ?_
  simp only [convert,Sem.run_bind,t1.run_und,t2.run_und,Result.andThen_ok,e]
  cases si.desc <;> rfl
 ·rename_i s e
  cases ha
  cases h
  refine z03 hs (.string _) ?_
  simp only [convert,Sem.run_bind,t1.run_und,t2.run_und,Result.andThen_ok,e]
  cases si.desc <;> rfl
 ·cases h
theorem zdj (hs:Sim G j S w) {fn:Fn} {first cap:Array Operand} (h1:RelOps j T ρ (first.toList++cap.toList)) (h:z9B T fn first.toList cap.toList=some v) :
  zO G ((do pure (Next.value (←Instr.makeFunc fn (first.map ρ) (cap.map ρ))):Sem Next).run G.P w) v j S w S:=by
 obtain ⟨a,ha,h⟩:=z8 h
 obtain ⟨b,hb,h⟩:=z8 h
 have r1:=RelOps.evs (fun x hx=>h1 x (List.mem_append_left _ hx)) ha
 have r2:=RelOps.evs (fun x hx=>h1 x (List.mem_append_right _ hx)) hb
 split at h
 ·cases h
  exact z03 hs (.func (.func _) (by simpa using r1) (by simpa using r2)) rfl
 ·cases h
theorem zg2 (hs:Sim G j S w) {t:TypeId} {r:Option Operand} {q:Value×St} (h:zbV r S=some q) :
  zO G ((do pure (Next.value (←Instr.makeMap t (r.map ρ))):Sem Next).run G.P w) q.1 j S w q.2:=by
 cases r with
 | some _=>cases h
 | none =>
  cases h
  obtain ⟨h1,h2⟩:=hs.new ⟨w.heap.size,0,0,0⟩ (o:=.map []) (o':=.map #[] 0) rfl ⟨#[],0,rfl,rfl,by simp,rfl,by simp⟩
  exact ⟨_,_,_,.inl (by simp [Instr.makeMap,World.alloc_eq]),.map (z1O _ _ _),h1,h2 _,ym _⟩
theorem zg3 (hs:Sim G j S w) {x:Operand} {i:Nat} (hr:RelOps j T ρ [x]) (h:zbW T x i=some v) :
  zO G ((do pure (Next.value (←Instr.extract (ρ x) i)):Sem Next).run G.P w) v j S w S:=by
 obtain ⟨u,hu,h⟩:=z8 h
 split at h
 ·obtain ⟨a',e,ha⟩:=(hr x (by simp) _ hu).tuple_inv
  obtain ⟨v',h1,h2⟩:=ha.get h
  refine z03 hs h2 ?_
  rw [Array.getElem?_toList] at h1
  simp [e,Instr.extract,h1]
 ·cases h
theorem zkC (hs:Sim G j S w) {x:Operand} (hr:RelOps j T ρ [x]) (h:ob (T.ev x) z4I=some v) {o:Oper} (ho:o.op = .nilCheck x) :
  zO G ((execOp ρ o).run G.P w) v j S w S:=by
 obtain ⟨u,hu,h⟩:=z8 h
 have hrel:=hr x (by simp) _ hu
 simp only [execOp,ho]
 unfold z4I at h
 split at h
 ·cases h
  obtain ⟨a',e,ha⟩:=hrel.ptr_inv
  rw [e]
  exact z1W hs (.ptr ha) rfl
 ·cases h
  generalize ρ x=y at hrel
  cases hrel with
  | func hf ha hb=>cases hf;exact z1W hs (.func (.func _) ha hb) rfl
 ·cases h
  generalize ρ x=y at hrel
  cases hrel with
  | func hf ha hb=>cases hf with
   | yield hl=>exact z1W hs (.func (.yield hl) ha hb) rfl
 ·cases h
theorem z3x {d n:Nat} {x:Option Operand} (h:z2v T d x=some n):(x=none∧n=d)∨∃ y k,x=some y∧T.ev y=some (.int k (n:Int)):=by
 cases x with
 | none=>cases h;exact .inl ⟨rfl,rfl⟩
 | some y =>
  obtain ⟨u,hu,h⟩:=z8 h
  obtain ⟨k,rfl⟩:=z1H h
  exact .inr ⟨y,k,rfl,hu⟩
theorem z1t {P:Program} {k:IntKind} {n m:Nat} (h:n≤m) (c:BoundsCode) (w:World):(Instr.sliceBound (.int k (n:Int)) m c).run P w = .ok n w:=by
 simp [Instr.sliceBound,asIntOf,h]
theorem z6t {P:Program} {isS:Bool} {n c l h:Nat} {lo hi:Option Operand} (hr:RelOps j T ρ (lo.toList++hi.toList)) (hl:z2v T 0 lo=some l) (hh:z2v T n hi=some h) (h1:l≤h) (h2:h≤c) (w:World) :
  (Instr.sliceBounds isS n c (lo.map ρ) (hi.map ρ) none).run P w = .ok (l,h,c) w:=by
 rcases z3x hl with ⟨rfl,rfl⟩ | ⟨y,k,rfl,hy⟩ <;> rcases z3x hh with ⟨rfl,rfl⟩ | ⟨z,k',rfl,hz⟩
 ·simp [Instr.sliceBounds]
 ·have e:=(hr z (by simp) _ hz).int_inv
  simp [Instr.sliceBounds,e,z1t h2]
 ·have e:=(hr y (by simp) _ hy).int_inv
  simp [Instr.sliceBounds,e,z1t h1]
 ·have e:=(hr y (by simp) _ hy).int_inv
  have e':=(hr z (by simp) _ hz).int_inv
  simp [Instr.sliceBounds,e,e',z1t h1,z1t h2]
theorem z8e {P:Program} {isS:Bool} {n c l h m:Nat} {lo hi:Option Operand} {mx:Operand} {k:IntKind} (hr:RelOps j T ρ (lo.toList++hi.toList++[mx])) (hl:z2v T 0 lo=some l) (hh:z2v T n hi=some h) (hi':hi.isSome=true)
  (hm:T.ev mx=some (.int k (m:Int))) (h1:l≤h) (h2:h≤m) (h3:m≤c) (w:World) :
  (Instr.sliceBounds isS n c (lo.map ρ) (hi.map ρ) (some (ρ mx))).run P w = .ok (l,h,m) w:=by
 have em:=(hr mx (by simp) _ hm).int_inv
 rcases z3x hh with ⟨rfl,rfl⟩ | ⟨z,k',rfl,hz⟩
 ·cases hi'
 ·have e':=(hr z (by simp) _ hz).int_inv
  rcases z3x hl with ⟨rfl,rfl⟩ | ⟨y,k,rfl,hy⟩
  ·simp [Instr.sliceBounds,em,e',z1t h2,z1t h3]
  ·have e:=(hr y (by simp) _ hy).int_inv
   simp [Instr.sliceBounds,em,e,e',z1t h1,z1t h2,z1t h3]
end
section
variable {G:Good} {j:Inj} {S S':St} {w:World} {v:Value} {T:Fr} {ρ : Operand→Value}
theorem z0B {a b:Nat} (h:a≠b):Nat.beq a b=false:=by
 cases hb:Nat.beq a b with
 | false=>rfl
 | true=>exact absurd (zm hb) h
theorem zdT {elem:TypeId} {a:Addr} {i:Nat} (hi:a.spot=some i) (h:z3i S elem (some a)=true):∃ c,S.heap.get a.block=some (.cells c elem):=by
 change (Option.rec true (fun _=>Option.rec false (fun c=>Nat.beq c.2 elem) (S.cells a.block)) a.spot:Bool)=true at h
 rw [hi] at h
 change (Option.rec false (fun c=>Nat.beq c.2 elem) (S.cells a.block):Bool)=true at h
 cases hc:S.cells a.block with
 | none=>rw [hc] at h;cases h
 | some c =>
  rw [hc] at h
  have:=zm h
  exact ⟨c.1,by rw [z1J hc,this]⟩
theorem Sim.esize (hs:Sim G j S w) {elem:TypeId} {e:LTy} {b:Nat} {x:JB} {c:List Value} (he:G.E.ti.get elem=some e) (hx:j b=some x) (hc:S.heap.get b=some (.cells c elem)):e.size=x.esize:=by
 obtain ⟨_,_,_,_,_,_,_,h,_⟩:=hs.objs b x _ hx hc
 exact h e he
theorem zhx (hs:Sim G j S w) {elem:TypeId} {e:LTy} (he:G.E.ti.get elem=some e) {a a':Addr} {n c c' l h:Nat} (hok:z3i S elem (some a)=true) (hr:SRel j a a' n c c') (hlh:l≤h) (hhc:h≤c) :
  Yf j (.slice (some (z0g a l e.size c)) (h - l) (c - l)) (.slice (some (if c'=l then a' else a'.add (l*e.size))) (h - l) (c' - l)):=by
 obtain ⟨x,hx,hb,hsp,hn,hex,hcc,hd⟩:=hr
 refine .slice ?_
 unfold z0g
 cases hsa:a.spot with
 | none =>
  have hc:=hex hsa
  subst hc
  by_cases hcl:c'=l
  ·have:Nat.beq c' l=true:=by rw [hcl];exact Nat.beq_refl l
   rw [this]
   rw [if_pos hcl]
   refine ⟨x,hx,fun h0=>hb (by omega),fun h0=>hsp (by omega),by omega,fun _=>rfl,ym _,.inl (by omega)⟩
  ·have:Nat.beq c' l=false:=z0B hcl
   rw [this]
   rw [if_neg hcl,z2l a' (hsp (by omega))]
   obtain ⟨hoff,hcap⟩:=hd.resolve_left (by omega)
   refine ⟨x,hx,fun h0=>hb (by omega),fun _=>rfl,by omega,fun _=>rfl,ym _,.inr ⟨?_,.inl rfl⟩⟩
   show a'.off+l*e.size=a.off+l*e.size+x.delta;omega
 | some i0 =>
  obtain ⟨cs,hcs⟩:=zdT hsa hok
  have hes:=hs.esize he hx hcs
  by_cases hcl:c'=l
  ·rw [if_pos hcl]
   exact ⟨x,hx,fun h0=>hb (by omega),fun h0=>hsp (by omega),by omega,(fun h=>by cases h),by omega,.inl (by omega)⟩
  ·rw [if_neg hcl,z2l a' (hsp (by omega))]
   obtain ⟨hoff,hcap⟩:=hd.resolve_left (by omega)
   have hcap:=hcap.resolve_left (by rw [hsa];simp)
   refine ⟨x,hx,fun h0=>hb (by omega),fun _=>rfl,by omega,(fun h=>by cases h),by omega,.inr ⟨?_,.inr ?_⟩⟩
   ·show a'.off+l*e.size=a.off+l*e.size+x.delta;omega
   ·show a'.off+l*e.size+(c' - l)*x.esize≤x.csize
    rw [hes,Nat.add_assoc,←Nat.add_mul,Nat.add_sub_cancel' (by omega)];exact hcap
theorem zfR (hs:Sim G j S w) {elem:TypeId} {e:LTy} (he:G.E.ti.get elem=some e) {a a':Addr} {n c c' l h m:Nat} (hok:z3i S elem (some a)=true) (hr:SRel j a a' n c c') (hlh:l≤h) (hhm:h≤m) (hmc:m≤c) :
  Yf j (.slice (some ⟨a.block,a.off+bf (Nat.beq m l) 0 (l*e.size),none⟩) (h - l) (m - l)) (.slice (some (if m=l then a' else a'.add (l*e.size))) (h - l) (m - l)):=by
 obtain ⟨x,hx,hb,hsp,hn,hex,hcc,hd⟩:=hr
 refine .slice ?_
 by_cases hml:m=l
 ·rw [if_pos hml]
  exact ⟨x,hx,fun h0=>hb (by omega),fun h0=>hsp (by omega),by omega,fun _=>rfl,ym _,.inl (by omega)⟩
 ·have:Nat.beq m l=false:=z0B hml
  rw [if_neg hml,z2l a' (hsp (by omega)),this]
  obtain ⟨hoff,hcap⟩:=hd.resolve_left (by omega)
  refine ⟨x,hx,fun h0=>hb (by omega),fun _=>rfl,by omega,fun _=>rfl,ym _,.inr ⟨?_,.inl rfl⟩⟩
  show a'.off+l*e.size=a.off+l*e.size+x.delta;omega
theorem zkw (hG:Yj G) (hs:Sim G j S w) {t:TypeId} {x:Operand} {u:Value} {lo hi mx:Option Operand} (hr:RelOps j T ρ (lo.toList++hi.toList++mx.toList)) (hu:Yf j u (ρ x)) (h0:z2d G.E t u T lo hi mx S=some v) :
  zO G ((do pure (Next.value (←Instr.sliceAt t (ρ x) (lo.map ρ) (hi.map ρ) (mx.map ρ))):Sem Next).run G.P w) v j S w S:=by
 obtain ⟨i,hi',h⟩:=z8 h0
 clear h0
 have ti:=hG.ti t i hi'
 have hr1:RelOps j T ρ (lo.toList++hi.toList):=fun y hy=>hr y (List.mem_append_left _ hy)
 have hun:∀ (d:TypeDesc),i.desc=d→z4c d=false→∀ y lo hi mx,(Instr.sliceAt t y lo hi mx).run G.P w=(Instr.slice t y lo hi mx).run G.P w:=by
  intro d hd hag y lo hi mx
  simp only [Instr.sliceAt,Sem.run_bind,ti.run_und,Result.andThen_ok,hd]
  cases d <;> first | rfl | (simp [z4c] at hag)
 generalize hD:i.desc=D at h
 split at h
 ·rename_i s
  have hd:=hD
  have e:=hu.string_inv
  obtain ⟨h1,h⟩:=ze h
  obtain ⟨l,hl,h⟩:=z8 h
  obtain ⟨k,hk,h⟩:=z8 h
  obtain ⟨hc,h⟩:=ze h
  cases h
  simp only [yw] at hc
  cases mx with
  | some _=>cases h1
  | none =>
   refine z03 hs (.string _) ?_
   rw [hun _ hd rfl,e]
   simp only [Instr.slice,Sem.run_bind,ti.run_und,Result.andThen_ok,hd]
   simp [z6t hr1 hl hk (zF hc.1) (zF hc.2)]
 ·rename_i elem a n c
  have hd:=hD
  obtain ⟨e,he,h⟩:=z8 h
  have te:=hG.ti elem e he
  obtain ⟨hok,h⟩:=ze h
  obtain ⟨l,hl,h⟩:=z8 h
  obtain ⟨k,hk,h⟩:=z8 h
  obtain ⟨hc,h⟩:=ze h
  simp only [yw] at hc
  have h1:=zF hc.1
  have h2:=zF hc.2
  cases mx with
  | none =>
   cases h
   generalize hy : ρ x=y at hu
   cases hu with
   | nilSlice =>
    refine z03 hs .nilSlice ?_
    rw [hun _ hd rfl]
    simp only [Instr.slice,Sem.run_bind,ti.run_und,Result.andThen_ok,hd]
    have:l=0∧k=0:=by omega
    simp [z6t hr1 hl hk h1 h2,te.run_size,this.1,this.2]
   | @slice a0 a' _ _ c' hrel =>
    refine z03 hs (zhx hs he hok hrel h1 h2) ?_
    rw [hun _ hd rfl]
    obtain ⟨xx,_,_,_,_,_,hcc,_⟩:=hrel
    simp only [Instr.slice,Sem.run_bind,ti.run_und,Result.andThen_ok,hd]
    simp only [Option.map_none,z6t hr1 hl hk h1 (yn h2 hcc),Result.andThen_ok,te.run_size,Sem.run_pure]
    by_cases hcl:c'=l <;> simp [hcl]
  | some mx =>
   obtain ⟨m,hm,h⟩:=z8 h
   obtain ⟨um,hum,hm⟩:=z8 hm
   obtain ⟨km,rfl⟩:=z1H hm
   obtain ⟨hc3,h⟩:=ze h
   cases h
   simp only [yw] at hc3
   have h3:=zF hc3.2.1
   have h4:=zF hc3.2.2
   generalize hy : ρ x=y at hu
   cases hu with
   | nilSlice =>
    refine z03 hs .nilSlice ?_
    rw [hun _ hd rfl]
    simp only [Instr.slice,Sem.run_bind,ti.run_und,Result.andThen_ok,hd]
    have:l=0∧k=0∧m=0:=by omega
    simp [z8e (by simpa using hr) hl hk hc3.1 hum h1 h3 h4,te.run_size,this.1,this.2]
   | @slice a0 a' _ _ c' hrel =>
    refine z03 hs (zfR hs he hok hrel h1 h3 h4) ?_
    rw [hun _ hd rfl]
    obtain ⟨xx,_,_,_,_,_,hcc,_⟩:=hrel
    simp only [Instr.slice,Sem.run_bind,ti.run_und,Result.andThen_ok,hd]
    simp only [Option.map_some,z8e (by simpa using hr) hl hk hc3.1 hum h1 h3 (yn h4 hcc),Result.andThen_ok,te.run_size,Sem.run_pure]
    by_cases hml:m=l <;> simp [hml]
 ·cases h
theorem z8p (hG:Yj G) {fs:Array Field} {i:Nat} {q:Nat×Nat} (h0:z3w G.E fs i=some q):∃ f g,fs[i]? = some f∧G.E.ti.get f.type=some g∧q=(f.offset,g.size):=by
 obtain ⟨f,hf,h⟩:=z8 h0
 clear h0
 obtain ⟨g,hg,h⟩:=z8 h
 cases h
 exact ⟨f,g,by rw [←Array.getElem?_toList];exact hf,hg,rfl⟩
theorem zbU (hG:Yj G) (hs:Sim G j S w) {t:TypeId} {u u':Value} {f:Nat} (hu:Yf j u u') (h0:z1n G.E t u f=some v) :
  zO G ((do pure (Next.value (←Instr.fieldAt t u' f)):Sem Next).run G.P w) v j S w S:=by
 obtain ⟨a,ha,h⟩:=z8 h0
 clear h0
 have:=z1e ha;subst this
 obtain ⟨i,hi,h⟩:=z8 h
 obtain ⟨fs,hfs,h⟩:=z8 h
 obtain ⟨hsp,h⟩:=z0l h
 obtain ⟨q,hq,h⟩:=z8 h
 obtain ⟨hpos,h⟩:=ze h
 cases h
 obtain ⟨g,gi,hg,hgi,rfl⟩:=z8p hG hq
 have ti:=hG.ti t i hi
 have tg:=hG.ti _ _ hgi
 obtain ⟨a',rfl,hsa,x,hx,rfl⟩:=hu.ptr_inv
 have hpos:=z0w hpos
 refine z03 hs (.ptr ⟨rfl,x,hx,rfl⟩) ?_
 simp only [Instr.fieldAt,Sem.run_bind,ti.run_und,Result.andThen_ok,z6S hfs,hg,Instr.sureAddr,fieldPlace,tg.run_size]
 simp only [Sem.run_pure,Result.andThen_ok,Sem.run_bind,tg.run_size,show gi.size≠0 by omega,if_false]
 rw [z2l _ rfl]
 simp only [Sem.run_pure,Result.andThen_ok]
 rw [Nat.add_right_comm]
theorem zeJ (hG:Yj G) {t:TypeId} {cs cs':Array Value} {off:Nat} (hc:Yh j cs.toList cs'.toList) (h0:zbM G.E t cs.toList off=some v) (w:World):∃ v',(part t cs' off).run G.P w = .ok v' w∧Yf j v v':=by
 obtain ⟨i,hi,h⟩:=z8 h0
 clear h0
 have ti:=hG.ti t i hi
 simp only [part,Sem.run_bind,ti.run_agg,Result.andThen_ok]
 cases hag:i.agg with
 | true =>
  rw [hag] at h
  obtain ⟨d,hd,h⟩:=z8 h
  cases h
  obtain ⟨hl,rfl⟩:=z3E hd
  refine ⟨.agg (cs'.extract off (off+i.size)),by simp [ti.run_size],.agg ?_⟩
  have:=(hc.drop off).take i.size
  simpa [List.take_drop,Nat.add_comm] using this
 | false =>
  rw [hag] at h
  obtain ⟨v',h1,h2⟩:=hc.get h
  rw [Array.getElem?_toList] at h1
  exact ⟨v',by simp [h1],h2⟩
theorem zkA (hG:Yj G) (hs:Sim G j S w) {t:TypeId} {u u':Value} {f:Nat} (hu:Yf j u u') (h0:z9U G.E t u f=some v) :
  zO G ((do pure (Next.value (←Instr.field t u' f)):Sem Next).run G.P w) v j S w S:=by
 obtain ⟨cs,hcs,h⟩:=z8 h0
 clear h0
 have:=zgw hcs;subst this
 obtain ⟨i,hi,h⟩:=z8 h
 obtain ⟨fs,hfs,h⟩:=z8 h
 obtain ⟨g,hg,h⟩:=z8 h
 have ti:=hG.ti t i hi
 obtain ⟨cs',rfl,hc⟩:=hu.agg_inv
 obtain ⟨v',h1,h2⟩:=zeJ hG hc h w
 refine z03 hs h2 ?_
 rw [Array.getElem?_toList] at hg
 simp [Instr.field,ti.run_und,z6S hfs,hg,asAgg,h1]
theorem zbT (hG:Yj G) (hs:Sim G j S w) {t:TypeId} {u u' i i':Value} (hu:Yf j u u') (hi:Yf j i i') (h0:z0P G.E t u i=some v) :
  zO G ((do pure (Next.value (←Instr.indexAt t u' i')):Sem Next).run G.P w) v j S w S:=by
 obtain ⟨k,hk,h⟩:=z8 h0
 clear h0
 obtain ⟨kk,rfl⟩:=z1H hk
 have:=hi.int_inv;subst this
 obtain ⟨ty,hty,h⟩:=z8 h
 have ti:=hG.ti t ty hty
 unfold z4B at h
 generalize hD:ty.desc=D at h
 split at h
 ·rename_i elem a n c
  have hd:=hD
  obtain ⟨e,he,h⟩:=z8 h
  have te:=hG.ti _ _ he
  obtain ⟨hlt,h⟩:=ze h
  cases h
  have hlt:=z0w hlt
  cases hu with
  | @slice a0 a' _ _ c' hr =>
   obtain ⟨x,hx,hb,hsp,hn,_,_,hdd⟩:=hr
   have hb:=hb (by omega)
   have hsp:=hsp (by omega)
   obtain ⟨hoff,_⟩:=hdd.resolve_left (by omega)
   refine z03 hs (.ptr ⟨rfl,x,hx,rfl⟩) ?_
   simp only [Instr.indexAt,asIntOf,Sem.run_bind,Sem.run_pure,Result.andThen_ok,ti.run_und,hd,te.run_size]
   simp [hlt,te.run_size,z2l a' hsp,hb,hoff]
   omega
 ·rename_i n elem a
  have hd:=hD
  obtain ⟨e,he,h⟩:=z8 h
  have te:=hG.ti _ _ he
  obtain ⟨hsp,h⟩:=z0l h
  obtain ⟨hlt,h⟩:=ze h
  cases h
  have hlt:=z0w hlt
  obtain ⟨a',rfl,hsa,x,hx,rfl⟩:=hu.ptr_inv
  refine z03 hs (.ptr ⟨rfl,x,hx,rfl⟩) ?_
  simp only [Instr.indexAt,asIntOf,Sem.run_bind,Sem.run_pure,Result.andThen_ok,ti.run_und,hd,Instr.sureAddr]
  simp [hlt,te.run_size,z2l]
  omega
 ·cases h
theorem zkz (hG:Yj G) (hs:Sim G j S w) {t:TypeId} {u u' i i':Value} (hu:Yf j u u') (hi:Yf j i i') (h0:z8N G.E t u i=some v) :
  zO G ((do pure (Next.value (←Instr.index t u' i')):Sem Next).run G.P w) v j S w S:=by
 obtain ⟨k,hk,h⟩:=z8 h0
 clear h0
 obtain ⟨kk,rfl⟩:=z1H hk
 have:=hi.int_inv;subst this
 obtain ⟨ty,hty,h⟩:=z8 h
 have ti:=hG.ti t ty hty
 unfold zfa at h
 generalize hD:ty.desc=D at h
 split at h
 ·rename_i n elem cs
  have hd:=hD
  obtain ⟨e,he,h⟩:=z8 h
  have te:=hG.ti _ _ he
  obtain ⟨hlt,h⟩:=ze h
  have hlt:=z0w hlt
  obtain ⟨cs',rfl,hc⟩:=hu.agg_inv
  obtain ⟨v',h1,h2⟩:=zeJ hG hc h w
  refine z03 hs h2 ?_
  simp [Instr.index,asIntOf,ti.run_und,hd,hlt,te.run_size,h1]
 ·rename_i s
  have hd:=hD
  obtain ⟨b,hb,h⟩:=z8 h
  cases h
  have:=hu.string_inv;subst this
  refine z03 hs (.int _ _) ?_
  simp [Instr.index,asIntOf,ti.run_und,hd,hb]
 ·cases h
end
section
variable {G:Good} {j:Inj} {S S':St} {w:World} {v:Value} {T:Fr} {ρ : Operand→Value}
theorem foldl_set:∀ (vs:List Value) (k:Nat) (cells:Array Value) (off:Nat),off+k+vs.length≤cells.size →
  ((vs.zipIdx k).foldl (fun (cs:Array Value) (p:Value×Nat)=>cs.setIfInBounds (off+p.2) p.1) cells).toList=cells.toList.take (off+k)++vs++cells.toList.drop (off+k+vs.length)
 | [],k,cells,off,_=>by simp
 | v::vs,k,cells,off,h=>by
  simp only [List.length_cons] at h
  rw [List.zipIdx_cons,List.foldl_cons,foldl_set vs (k+1) _ off (by simp;omega)]
  have e:=list_seg_step cells.toList (off+k) v vs (by simp;omega)
  simpa [Array.toList_setIfInBounds,Nat.add_assoc] using e
theorem z7L {place place':Nat→Option (Nat×Nat)} (hp:∀ i q,place i=some q→place' i=some q):∀ (parts:List (Nat×Operand)) (ps:List (Nat×Value)) (cells:List Value) (cells':Array Value) (c:List Value),
  (∀ p∈parts,∀ v,T.ev p.2=some v→Yf j v (ρ p.2))→z3D T parts=some ps→Yh j cells cells'.toList→z9n place cells ps=some c →
  ∃ c',Instr.fill place' cells' (parts.map fun p=>(p.1,ρ p.2))=some c'∧Yh j c c'.toList
 | [],ps,cells,cells',c,_,he,hc,hf=>by
  cases he;cases hf
  exact ⟨cells',rfl,hc⟩
 | p::parts,ps,cells,cells',c,hr,he,hc,hf=>by
  obtain ⟨v,hv,he⟩:=z8 he
  obtain ⟨us,hus,he⟩:=z8 he
  cases he
  obtain ⟨q,hq,hf⟩:=z8 hf
  obtain ⟨hsz,hf⟩:=ze hf
  obtain ⟨d,hd,hf⟩:=z8 hf
  have hrel:=(hr p (by simp) v hv).cells
  have hl:=hrel.length
  have hsz:v.cells.size=q.2:=zm hsz
  obtain ⟨hfit,rfl⟩:=z4s hd
  have hcl:=hc.length
  simp only [Array.length_toList] at hl hcl hfit
  have hfo:=foldl_set (ρ p.2).cells.toList 0 cells' q.1 (by simp;omega)
  simp only [Nat.add_zero,Array.length_toList] at hfo
  refine (z7L hp parts us _ ((ρ p.2).cells.zipIdx.foldl (fun cs (p:Value×Nat)=>cs.setIfInBounds (q.1+p.2) p.1) cells') c (fun p hp=>hr p (by simp [hp])) hus ?_ hf).elim fun c' hc'=>⟨c',?_,hc'.2⟩
  ·rw [←Array.foldl_toList,Array.toList_zipIdx,hfo,←hl]
   exact ((hc.take _).append hrel).append (hc.drop _)
  ·have h1:=hp _ _ hq
   simp only [List.map_cons,Instr.fill,h1]
   rw [if_neg (by simp;omega)]
   exact hc'.1
theorem zeB {P:Program} {α β : Type} (f : α → Sem β) (g : α → β):∀ (l:List α),(∀ x∈l,(f x).run P w = .ok (g x) w)→(l.mapM f).run P w = .ok (l.map g) w
 | [],_=>by simp
 | x::l,h=>by
  simp only [List.mapM_cons,Sem.run_bind,h x (by simp),Result.andThen_ok,zeB f g l (fun y hy=>h y (by simp [hy])),Sem.run_pure,List.map_cons]
theorem zkD (hG:Yj G) (hs:Sim G j S w) {t:TypeId} {parts:Array (Nat×Operand)} (hr:∀ p∈parts.toList,∀ v,T.ev p.2=some v→Yf j v (ρ p.2)) (h0:zi3 G.E T t parts.toList=some v) :
  zO G ((do pure (Next.value (←Instr.build t (parts.map fun (i,x)=>(i,ρ x)))):Sem Next).run G.P w) v j S w S:=by
 obtain ⟨i,hi,h⟩:=z8 h0
 clear h0
 have ti:=hG.ti t i hi
 obtain ⟨ps,hps,h⟩:=z8 h
 have hkn:=ti.known
 generalize hD:i.desc=D at h hkn
 split at h
 ·rename_i fs
  obtain ⟨c,hc,h⟩:=z8 h
  cases h
  have hinf:∀ f∈fs.toList,(do pure (f.offset,←sizeOf f.type):Sem (Nat×Nat)).run G.P w = .ok (f.offset,G.P.cellsOf f.type) w:=by
   intro f hf
   have:=List.all_eq_true.1 hkn f hf
   obtain ⟨fi,hfi⟩:=Option.isSome_iff_exists.1 this
   simp [sizeOf,typeInfo,hfi,Program.cellsOf]
  have hm:=zeB (w:=w) (P:=G.P) (fun f:Field=>(do pure (f.offset,←sizeOf f.type):Sem (Nat×Nat))) _ fs.toList hinf
  obtain ⟨c',h1,h2⟩:=z7L (j:=j) (ρ := ρ) (place':=fun x=>Option.map (fun x=>(x.offset,G.P.cellsOf x.type)) fs[x]?) (fun k q hq=>by
   obtain ⟨f,g,hf,hg,rfl⟩:=z8p hG hq
   obtain ⟨gi,hgi,hgs,_⟩:=(hG.ti _ _ hg).info
   simp [hf,Program.cellsOf,hgi,hgs]) parts.toList ps _ i.zero.cells c hr hps (z1x j ti.lit).cells hc
  refine z03 hs (.agg (by simpa using h2)) ?_
  simp only [Instr.build,Sem.run_bind,ti.run_zero,ti.run_und,Result.andThen_ok,hD,Array.mapM_eq_mapM_toList,Sem.run_map,hm]
  have e:((parts.map fun (i,x)=>(i,ρ x)).toList)=parts.toList.map fun p=>(p.1,ρ p.2):=by simp
  simp only [e]
  simp [h1]
 ·rename_i n elem
  obtain ⟨e,he,h⟩:=z8 h
  obtain ⟨c,hc,h⟩:=z8 h
  cases h
  have te:=hG.ti _ _ he
  obtain ⟨c',h1,h2⟩:=z7L (j:=j) (ρ := ρ) (fun _ _ h=>h) parts.toList ps _ i.zero.cells c hr hps (z1x j ti.lit).cells hc
  refine z03 hs (.agg (by simpa using h2)) ?_
  have e:((parts.map fun (i,x)=>(i,ρ x)).toList)=parts.toList.map fun p=>(p.1,ρ p.2):=by simp
  simp only [Instr.build,Sem.run_bind,ti.run_zero,ti.run_und,Result.andThen_ok,hD,te.run_size,e,h1,Sem.run_pure]
 ·cases h
theorem z6i (z:List Value):zeros z 0=[]:=rfl
theorem zfD (z:List Value) (n:Nat):zeros z (n+1)=z++zeros z n:=rfl
theorem z9m (z:List Value) (n:Nat):∀ (i:Nat),(zeros z n)[i]? = if i<n*z.length then z[i % z.length]? else none:=by
 induction n with
 | zero=>intro i;simp [z6i]
 | succ n ih =>
  intro i
  show (z++zeros z n)[i]? = _
  by_cases h:i<z.length
  ·rw [List.getElem?_append_left h,if_pos (by rw [Nat.succ_mul];omega),Nat.mod_eq_of_lt h]
  ·rw [List.getElem?_append_right (by omega),ih]
   by_cases h2:i - z.length<n*z.length
   ·rw [if_pos h2,if_pos (by rw [Nat.succ_mul];omega)]
    congr 1
    rw [←Nat.mod_eq_sub_mod (by omega)]
   ·rw [if_neg h2,if_neg (by rw [Nat.succ_mul];omega)]
theorem z4W (z:Array Value) (n:Nat):((Array.range (n*z.size)).map fun i=>z[i % z.size]!).toList=zeros z.toList n:=by
 apply List.ext_getElem?
 intro i
 rw [z9m]
 by_cases h:i<n*z.size
 ·have hz:0<z.size:=by
   rcases Nat.eq_zero_or_pos z.size with h0 | h0
   ·rw [h0] at h;simp at h
   ·exact h0
  have:=Nat.mod_lt i hz
  simp [h,this]
 ·simp [h]
theorem z5J (j:Inj) {z:Value} (h:litV z=true) (n:Nat):Yh j (zeros z.cells.toList n) (zeros z.cells.toList n):=by
 have:=(z1x j h).cells
 induction n with
 | zero=>exact .nil
 | succ n ih=>exact this.append ih
theorem z2J (z:List Value) (n:Nat):(zeros z n).length=n*z.length:=by
 induction n with
 | zero=>simp [z6i]
 | succ n ih=>show (z++zeros z n).length=_;rw [List.length_append,ih,Nat.succ_mul];omega
theorem zby (j:Inj) (b n k m:Nat) (x:JB) (hx:x.delta=0) (hb:x.blk=b) (hk:k*x.esize≤x.csize) (hn:n≤k):Yf (j.ext m x) (.slice (some ⟨m,0,none⟩) n k) (.slice (some ⟨b,0,none⟩) n k):=by
 refine .slice ⟨x,z1O _ _ _,fun _=>hb.symm,fun _=>rfl,hn,fun _=>rfl,ym _,.inr ⟨?_,.inr ?_⟩⟩
 ·show 0=0+x.delta;omega
 ·show 0+k*x.esize≤x.csize;omega
theorem zay (hG:Yj G) (hs:Sim G j S w) {t:TypeId} {len:Nat} {parts:Array (Nat×Operand)} {r:Value×St} (hr:∀ p∈parts.toList,∀ v,T.ev p.2=some v→Yf j v (ρ p.2)) (h0:z3X G.E T t len parts.toList S=some r) :
  zO G ((do pure (Next.value (←Instr.buildSlice t len (parts.map fun (i,x)=>(i,ρ x)))):Sem Next).run G.P w) r.1 j S w r.2:=by
 obtain ⟨i,hi,h⟩:=z8 h0
 clear h0
 have ti:=hG.ti t i hi
 obtain ⟨elem,helem,h⟩:=z8 h
 have hD:=z1G helem
 obtain ⟨ps,hps,h⟩:=z8 h
 obtain ⟨e,he,h⟩:=z8 h
 have te:=hG.ti _ _ he
 obtain ⟨hcond,h⟩:=ze h
 obtain ⟨c,hc,h⟩:=z8 h
 cases h
 simp only [yw] at hcond
 have h1:=zF hcond.1
 have h2:=z0w hcond.2.1
 have h3:=zm hcond.2.2
 obtain ⟨c',h4,h5⟩:=z7L (j:=j) (ρ := ρ) (fun _ _ h=>h) parts.toList ps _ ((Array.range (len*e.size)).map fun i=>e.zero.cells[i % e.zero.cells.size]!) c hr hps (by
  rw [←h3,z4W];exact z5J j te.lit len) hc
 have hsz:c'.size=len*e.size:=by
  have:=h5.length
  have h6:∀ (place:Nat→Option (Nat×Nat)) (ps:List (Nat×Value)) (cells c:List Value),z9n place cells ps=some c→c.length=cells.length:=by
   intro place ps
   induction ps with
   | nil=>intro cells c h;cases h;rfl
   | cons p ps ih =>
    intro cells c h
    obtain ⟨q,_,h⟩:=z8 h
    obtain ⟨_,h⟩:=ze h
    obtain ⟨d,hd,h⟩:=z8 h
    rw [ih _ _ h,z6X hd]
  have h7:=h6 _ _ _ _ hc
  rw [z2J] at h7
  simp only [Array.length_toList] at this h7
  rw [←this,h7,h3]
 refine z7N (rest:=[]) hs elem elem h5 (v':=.slice (some ⟨w.heap.size,0,none⟩) len len) ?_ (zby _ _ _ _ _ _ rfl rfl ?_ (ym _))
 ·have e1:((parts.map fun (i,x)=>(i,ρ x)).toList)=parts.toList.map fun p=>(p.1,ρ p.2):=by simp
  simp only [Instr.buildSlice,Sem.run_bind,ti.run_und,Result.andThen_ok,hD,te.run_size]
  rw [if_neg (by omega)]
  by_cases h0:len*e.size=0
  ·have hr0:(Array.range (len*e.size)).map (fun i=>e.zero.cells[i % e.zero.cells.size]!) = #[]:=by rw [h0];simp
   rw [hr0] at h4
   simp only [h0,if_true,Sem.run_pure,Result.andThen_ok,e1]
   simp [show Array.range 0 = #[] from rfl,h4,Go.newRow,World.alloc_eq]
  ·simp only [if_neg h0,Sem.run_bind,te.run_zero,Result.andThen_ok,Sem.run_pure,e1,h4]
   simp [Go.newRow,World.alloc_eq]
 ·show len*esz G elem≤(c'.toList++[]).length
  simp only [esz,he,Option.map_some,Option.getD_some,List.append_nil,Array.length_toList,hsz]
  exact ym _
theorem wrap_small {n:Nat} (h:n≤1048576):IntKind.i64.wrap (n:Int)=n:=IntWalk.i64_in _ (by omega)
theorem zbS (hG:Yj G) (hs:Sim G j S w) {t:TypeId} {a b a' b':Value} {r:Value×St} (ha:Yf j a a') (hb:Yf j b b') (h0:z2p G.E t a b S=some r) :
  zO G ((do pure (Next.value (←Instr.makeSlice t a' b')):Sem Next).run G.P w) r.1 j S w r.2:=by
 obtain ⟨i,hi,h⟩:=z8 h0
 clear h0
 have ti:=hG.ti t i hi
 obtain ⟨elem,helem,h⟩:=z8 h
 have hD:=z1G helem
 obtain ⟨e,he,h⟩:=z8 h
 have te:=hG.ti _ _ he
 obtain ⟨n,hn,h⟩:=z8 h
 obtain ⟨c,hc,h⟩:=z8 h
 obtain ⟨kn,rfl⟩:=z1H hn
 obtain ⟨kc,rfl⟩:=z1H hc
 have:=ha.int_inv;subst this
 have:=hb.int_inv;subst this
 obtain ⟨hcond,h⟩:=ze h
 cases h
 simp only [yw] at hcond
 have h1:=zF hcond.1
 have h2:=zF hcond.2.1
 have h3:=zF hcond.2.2.1
 have h4:=z0w hcond.2.2.2.1
 have h5:=zm hcond.2.2.2.2
 obtain ⟨ii,hii,hby,hsi⟩:=te.run_info w
 have hmul:(ii.bytes:Int)*(c:Int)≤4096*1048576:=by
  have:ii.bytes*c≤4096*1048576:=Nat.mul_le_mul (by omega) h2
  have h:=Int.ofNat_le.2 this
  rw [Int.natCast_mul] at h
  exact h
 refine z7N (rest:=[]) (c1:=zeros e.zero.cells.toList c) hs elem elem (z5J j te.lit c) (v':=.slice (some ⟨w.heap.size,0,none⟩) n c) ?_ (zby _ _ _ _ _ _ rfl rfl ?_ h1)
 ·simp only [Instr.makeSlice,Sem.run_bind,ti.run_und,Result.andThen_ok,hD,asInt,asIntOf,Sem.run_pure,hii,wrap_small h2,wrap_small (yn h1 h2)]
  have hneg:((decide ((c:Int)<0)||decide ((ii.bytes:Int)*(c:Int) > 2 ^ 48))||decide ((n:Int)<0)||decide ((n:Int) > (c:Int)))=false:=by
   simp only [Bool.or_eq_false_iff,decide_eq_false_iff_not]
   exact ⟨⟨⟨by omega,by omega⟩,by omega⟩,by omega⟩
  simp only [hneg,Bool.false_eq_true,if_false,Sem.run_bind,run_askRoom,Result.andThen_ok,Int.toNat_natCast,te.run_size]
  by_cases h0:c*e.size=0
  ·have hc0:c=0:=by
    rcases Nat.mul_eq_zero.1 h0 with h | h
    ·exact h
    ·omega
   subst hc0
   simp [show Array.range 0 = #[] from rfl,Go.newRow,World.alloc_eq,z6i]
  ·simp only [if_neg h0,Sem.run_bind,te.run_zero,Result.andThen_ok,Sem.run_pure]
   have:=z4W e.zero.cells c
   simp only [Go.newRow,Sem.run_bind,run_newObj,Result.andThen_ok,Sem.run_pure,World.alloc_eq,List.append_nil]
   rw [←this,Array.toArray_toList,h5]
 ·show c*esz G elem≤(zeros e.zero.cells.toList c++[]).length
  simp only [esz,he,Option.map_some,Option.getD_some,List.append_nil,z2J,Array.length_toList,h5]
  exact ym _
end
section
variable {G:Good} {j:Inj} {S S':St} {w:World} {v:Value} {T:Fr} {ρ : Operand→Value}
theorem Yf.key_inv {d:TypeDesc} {k k':Value} (h:Yf j k k') (hk:zy d k=true):k'=k:=by
 cases h <;> first | rfl | (cases d <;> cases hk)
theorem z7R (a b:ByteArray):(a==b)=true ↔ a=b:=by
 cases a with
 | mk a =>
  cases b with
  | mk b =>
   show ByteArray.beq ⟨a⟩ ⟨b⟩=true ↔ _
   unfold ByteArray.beq
   simp
theorem zfZ (es:List (Value×Value)) (k v:Value):z2Y es k v none=es++[(k,v)]:=rfl
theorem zfY (es:List (Value×Value)) (k v:Value) (q:Nat×Value):z2Y es k v (some q)=es.set q.1 (k,v):=rfl
theorem zf7 {d:TypeDesc} {k:Value} (hk:zy d k=true):Yf j k k:=by
 cases k <;> first | exact .bool _ | exact .int _ _ | exact .string _ | (cases d <;> cases hk)
def zrt (j:Inj) (es:List (Value×Value)) (es':Array MapEntry):Prop :=
 es.length=es'.size∧∀ (i:Nat) (p:Value×Value),es[i]? = some p→∃ e:MapEntry,es'[i]? = some e∧Yf j p.1 e.key∧Yf j p.2 e.val
theorem z8X {d:TypeDesc} {k:Value} (hk:zy d k=true):∀ (es:List (Value×Value)) (es':List MapEntry) (i:Nat) (r:Option (Nat×Value)),es.length=es'.length →
  (∀ (i:Nat) (p:Value×Value),es[i]? = some p→∃ e:MapEntry,es'[i]? = some e∧Yf j p.1 e.key∧Yf j p.2 e.val)→z0T k es i=some r →
  ∃ r',Instr.findNow d k es' i=some r'∧(match r,r' with
   | none,none=>True
   | some p,some q=>p.1=q.1∧Yf j p.2 q.2∧i≤p.1∧∃ x,es[p.1 - i]? = some x∧x.1=k
   | _,_=>False)
 | [],es',i,r,hl,_,h=>by
  cases es' with
  | nil=>cases h;exact ⟨none,rfl,trivial⟩
  | cons=>simp at hl
 | p::es,es',i,r,hl,hr,h=>by
  cases es' with
  | nil=>simp at hl
  | cons e es' =>
   obtain ⟨b,hb,h⟩:=z8 h
   obtain ⟨e',he',h1,h2⟩:=hr 0 p rfl
   simp only [List.getElem?_cons_zero,Option.some.injEq] at he';subst he'
   have hkey:e.key=p.1:=(zbD hb (zf7 (j:=j) hk) h1).2
   have hnow:=zkh hb hk
   rw [←hkey] at hnow
   cases b with
   | true =>
    cases h
    refine ⟨some (i,e.val),by simp [Instr.findNow,hnow],rfl,h2,ym _,p,by simp,?_⟩
    cases k <;> simp [zy] at hk <;> (generalize p.1=y at hb;cases y <;> simp only [z2P] at hb <;> first | (cases hb;done) | skip)
    ·simp at hb;rw [hb]
    ·obtain ⟨h3,h4⟩:=ze hb
     simp at h3 h4;rw [h3,h4]
    ·injection hb with hb;rw [(z7R _ _).1 hb]
   | false =>
    obtain ⟨r',h3,h4⟩:=z8X hk es es' (i+1) r (by simpa using hl) (fun i p hp=>by simpa using hr (i+1) p (by simpa using hp)) h
    refine ⟨r',by simp [Instr.findNow,hnow,h3],?_⟩
    cases r <;> cases r' <;> first | trivial | (exact False.elim h4) | skip
    ·obtain ⟨h5,h6,h7,x,h8,h9⟩:=h4
     refine ⟨h5,h6,by omega,x,?_,h9⟩
     rw [Nat.sub_add_eq] at h8
     rename_i a b _
     have:∀ n,i+1≤n→es[n - (i+1)]? = (p::es)[n - i]? :=fun n hn=>by
      rw [show n - i=n - (i+1)+1 by omega];rfl
     rw [←this _ h7,Nat.sub_add_eq];exact h8
theorem run_checkKey {P:Program} {t:TypeId} {x:LTy} (ti:TiOK P t x) {k:Value} (hk:zy x.desc k=true) (e:Bool) (w:World):(Instr.checkKey e 10000 t k).run P w = .ok () w:=by
 show (Instr.checkKey e (9999+1) t k).run P w=_
 generalize 9999=d
 simp only [Instr.checkKey,Sem.run_bind,ti.run_und,Result.andThen_ok]
 generalize x.desc=D at hk
 cases D <;> cases k <;> simp [zy] at hk <;> rfl
theorem run_findKey {P:Program} {t:TypeId} {x:LTy} (ti:TiOK P t x) {k:Value} {es:List MapEntry} {r:Option (Nat×Value)} (h:Instr.findNow x.desc k es 0=some r) (w:World):(Instr.findKey t k es).run P w = .ok r w:=by
 simp [Instr.findKey,ti.run_und,h]
theorem z2n {P:Program} {r:Nat} {es:Array MapEntry} {c:Nat} (h:w.heap[r]? = some (.map es c)):(getObj r).run P w = .ok (.map es c) w:=by simp [getObj,Sem.run,h]
theorem z2q {E:Env} {f:Field} {fs:List Field} {i:Nat} {x:Value} {a:List Value} (h:z6C E (f::fs) i (x::a)=true):∃ ft,E.ti.get f.type=some ft∧f.offset=i∧zy ft.desc x=true∧z6C E fs (i+1) a=true:=by
 change (Option.rec false (fun ft=>Nat.beq f.offset i&&(zy ft.desc x&&z6C E fs (Nat.succ i) a)) (E.ti.get f.type):Bool)=true at h
 cases hf:E.ti.get f.type with
 | none=>rw [hf] at h;cases h
 | some ft =>
  rw [hf] at h
  have h:(Nat.beq f.offset i&&(zy ft.desc x&&z6C E fs (Nat.succ i) a))=true:=h
  simp only [yw] at h
  exact ⟨ft,rfl,zm h.1,h.2.1,h.2.2⟩
theorem zca {E:Env}:∀ {fs:List Field} {i:Nat} {l l':List Value},z6C E fs i l=true→Yh j l l'→l'=l
 | [],_,[],_,_,hr=>by cases hr;rfl
 | [],_,_::_,_,h,_=>by cases h
 | _::_,_,[],_,h,_=>by cases h
 | f::fs,i,x::a,l',h,hr=>by
  obtain ⟨ft,_,_,h1,h2⟩:=z2q h
  cases hr with
  | cons hx hl=>rw [hx.key_inv h1,zca h2 hl]
theorem z9F {E:Env}:∀ {fs:List Field} {i:Nat} {l:List Value},z6C E fs i l=true→Yh j l l
 | [],_,[],_=>.nil
 | [],_,_::_,h=>by cases h
 | _::_,_,[],h=>by cases h
 | f::fs,i,x::a,h=>by
  obtain ⟨ft,_,_,h1,h2⟩:=z2q h
  exact .cons (zf7 h1) (z9F h2)
theorem zfU {x y:Value} (h:z2P x y=some true):x=y:=by
 cases x <;> cases y <;> simp only [z2P] at h <;> first | (cases h;done) | skip
 ·simp at h;rw [h]
 ·obtain ⟨h3,h4⟩:=ze h
  simp at h3 h4;rw [h3,h4]
 ·injection h with h;rw [(z7R _ _).1 h]
theorem z5P {E:Env}:∀ {fs:List Field} {i:Nat} {a b:List Value},z0r E fs i a b=some true→a=b
 | [],_,[],[],_=>rfl
 | [],_,_::_,_,h=>by cases h
 | [],_,[],_::_,h=>by cases h
 | _::_,_,[],_,h=>by cases h
 | _::_,_,_::_,[],h=>by cases h
 | f::fs,i,x::a,y::b,h=>by
  change (ob (E.ti.get f.type) fun ft=>gd (Nat.beq f.offset i&&zy ft.desc x) (ob (z2P x y) fun p=>ob (z0r E fs (Nat.succ i) a b) fun q=>some (p&&q)))=some true at h
  obtain ⟨ft,_,h⟩:=z8 h
  obtain ⟨_,h⟩:=ze h
  obtain ⟨p,hp,h⟩:=z8 h
  obtain ⟨q,hq,h⟩:=z8 h
  injection h with h
  simp only [yw] at h
  obtain ⟨rfl,rfl⟩:=h
  rw [zfU hp,z5P hq]
theorem z2r {E:Env} {i:LTy} {k:Value} (h:z3A E i k=true):∃ fs cs,i.desc = .struct fs∧k = .agg cs∧i.plain=true∧z6C E fs.toList 0 cs.toList=true:=by
 unfold z3A at h
 split at h
 ·rename_i fs cs hd
  simp only [yw] at h
  exact ⟨fs,cs,hd,rfl,h.1,h.2⟩
 ·cases h
theorem z5z {n:Nat}:∀ {E:Env} {fs:List Field} {i:Nat} {l:List Value},z6C E fs i l=true→((l.zip l).all fun p=>Instr.sameBits n p.1 p.2)=true
 | _,[],_,[],_=>rfl
 | _,[],_,_::_,h=>by cases h
 | _,_::_,_,[],h=>by cases h
 | E,f::fs,i,x::a,h=>by
  obtain ⟨ft,_,_,h1,h2⟩:=z2q h
  rw [List.zip_cons_cons,List.all_cons,z5z h2,Bool.and_true]
  cases x <;> first | (simp [Instr.sameBits];done) | (generalize ft.desc=D at h1;cases D <;> first | (cases h1;done) | skip)
  rename_i s
  cases n <;> exact (z7R _ _).2 rfl
def zb2 (e:Bool) (n:Nat) (cs:Array Value) (f:Field) (_:PUnit):Sem (ForInStep PUnit) :=
 if f.name ≠ "_" then do
  let x ←part f.type cs f.offset
  Instr.checkKey e n f.type x
  pure (ForInStep.yield PUnit.unit)
 else pure (ForInStep.yield PUnit.unit)
theorem z8d (hG:Yj G) (e:Bool) (n:Nat) (cs:Array Value):∀ (fs:List Field) (i:Nat) (l:List Value),cs.toList.drop i=l→z6C G.E fs i l=true→(forIn fs PUnit.unit (zb2 e (n+1) cs)).run G.P w = .ok PUnit.unit w
 | [],_,_,_,_=>rfl
 | f::fs,i,l,hl,h=>by
  cases l with
  | nil=>cases h
  | cons x a =>
   obtain ⟨ft,hft,hof,h1,h2⟩:=z2q h
   have ti:=hG.ti _ _ hft
   have hag:ft.agg=false:=by rw [ti.agg];exact z8E h1
   have hxa:cs[f.offset]? = some x:=by
    rw [hof,←Array.getElem?_toList,←List.head?_drop,hl];rfl
   have hck:(Instr.checkKey e (n+1) f.type x).run G.P w = .ok () w:=by
    simp only [Instr.checkKey,Sem.run_bind,ti.run_und,Result.andThen_ok]
    generalize ft.desc=D at h1
    cases D <;> cases x <;> simp [zy] at h1 <;> rfl
   have hrd:(zb2 e (n+1) cs f PUnit.unit).run G.P w = .ok (ForInStep.yield PUnit.unit) w:=by
    unfold zb2
    split
    ·simp only [Sem.run_bind,zal ti hag hxa,Result.andThen_ok,hck,Sem.run_pure]
    ·rfl
   rw [List.forIn_cons,Sem.run_bind,hrd,Result.andThen_ok]
   exact z8d hG e n cs fs (i+1) a (by rw [←List.tail_drop,hl];rfl) h2
theorem zbF (hG:Yj G) {t:TypeId} {kt:LTy} {k:Value} (hkt:G.E.ti.get t=some kt) (hk:z3A G.E kt k=true) (e:Bool) (w:World):(Instr.checkKey e 10000 t k).run G.P w = .ok () w:=by
 obtain ⟨fs,cs,hd,rfl,hp,hf⟩:=z2r hk
 have ti:=hG.ti _ _ hkt
 have h1:=z8d (w:=w) hG e 9998 cs fs.toList 0 _ rfl hf
 show (Instr.checkKey e (9999+1) t (.agg cs)).run G.P w=_
 generalize hn:9999=n
 have hn2:n=9998+1:=hn.symm
 rw [←hn2] at h1
 simp only [Instr.checkKey,Sem.run_bind,ti.run_und,Result.andThen_ok,hd]
 rw [←Array.forIn_toList]
 change ((forIn fs.toList PUnit.unit (zb2 e n cs)).run G.P w).andThen _=_
 rw [h1];rfl
theorem zjx (hG:Yj G) {t:TypeId} {kt:LTy} {k:Value} (hkt:G.E.ti.get t=some kt) (hk:z3A G.E kt k=true):∀ (es:List (Value×Value)) (es':List MapEntry) (i:Nat) (r:Option (Nat×Value)),es.length=es'.length →
  (∀ (i:Nat) (p:Value×Value),es[i]? = some p→∃ e:MapEntry,es'[i]? = some e∧Yf j p.1 e.key∧Yf j p.2 e.val)→z5k G.E t k es i=some r →
  ∃ r',(∀ w,(Instr.findAsking t k es' i).run G.P w = .ok r' w)∧(match r,r' with
   | none,none=>True
   | some p,some q=>p.1=q.1∧Yf j p.2 q.2∧i≤p.1∧∃ x,es[p.1 - i]? = some x∧x.1=k
   | _,_=>False)
 | [],es',i,r,hl,_,h=>by
  cases es' with
  | nil=>cases h;exact ⟨none,fun _=>rfl,trivial⟩
  | cons=>simp at hl
 | p::es,es',i,r,hl,hr,h=>by
  cases es' with
  | nil=>simp at hl
  | cons e es' =>
   obtain ⟨fs,cs,hd,hkk,hp,hf⟩:=z2r hk
   obtain ⟨b,hb,h⟩:=z8 h
   obtain ⟨e',he',h1,h2⟩:=hr 0 p rfl
   simp only [List.getElem?_cons_zero,Option.some.injEq] at he';subst he'
   have hkr:Yf j k k:=by rw [hkk];exact .agg (z9F hf)
   have heq:=fun w=>(z5A (w:=w) hG hkr h1 hb).1
   cases b with
   | true =>
    cases h
    refine ⟨some (i,e.val),fun w=>by simp [Instr.findAsking,heq w],rfl,h2,ym _,p,by simp,?_⟩
    obtain ⟨i0,hi0,h3⟩:=z8 hb
    rw [hkt] at hi0;cases hi0
    unfold z11 at h3
    rw [hd,hkk] at h3
    cases hp1:p.1 <;> rw [hp1] at h3 <;> first | (cases h3;done) | skip
    rename_i b
    obtain ⟨_,h4⟩:=ze h3
    have:=z5P h4
    rw [hkk]
    congr 1
    exact (Array.ext' this).symm
   | false =>
    obtain ⟨r',h3,h4⟩:=zjx hG hkt hk es es' (i+1) r (by simpa using hl) (fun i p hp=>by simpa using hr (i+1) p (by simpa using hp)) h
    refine ⟨r',fun w=>by simp [Instr.findAsking,heq w,h3 w],?_⟩
    cases r <;> cases r' <;> first | trivial | (exact False.elim h4) | skip
    ·obtain ⟨h5,h6,h7,x,h8,h9⟩:=h4
     refine ⟨h5,h6,by omega,x,?_,h9⟩
     rw [Nat.sub_add_eq] at h8
     rename_i a b _
     have:∀ n,i+1≤n→es[n - (i+1)]? = (p::es)[n - i]? :=fun n hn=>by
      rw [show n - i=n - (i+1)+1 by omega];rfl
     rw [←this _ h7,Nat.sub_add_eq];exact h8
theorem sameBits_self {d:TypeDesc} {k:Value} (hk:zy d k=true):Instr.sameBits 10000 k k=true:=by
 cases k <;> first | (simp [Instr.sameBits];done) | (cases d <;> first | (cases hk;done) | skip)
 rename_i s
 show (s==s)=true
 exact (z7R _ _).2 rfl
theorem zam (hG:Yj G) {t:TypeId} {kt:LTy} {k k':Value} {es:List (Value×Value)} {es':Array MapEntry} {r:Option (Nat×Value)} (hkt:G.E.ti.get t=some kt) (hk:z2K G.E kt k=true) (hkr:Yf j k k') (hl:es.length=es'.size)
  (hr:∀ (i:Nat) (p:Value×Value),es[i]? = some p→∃ e:MapEntry,es'[i]? = some e∧Yf j p.1 e.key∧Yf j p.2 e.val) (h:z7v G.E t k es=some r) :
  k'=k∧Instr.sameBits 10000 k k=true∧(∀ e w,(Instr.checkKey e 10000 t k).run G.P w = .ok () w)∧∃ r',(∀ w,(Instr.findKey t k es'.toList).run G.P w = .ok r' w)∧(match r,r' with
   | none,none=>True
   | some p,some q=>p.1=q.1∧Yf j p.2 q.2∧p.1<es.length∧∀ e,es'[p.1]? = some e→e.key=k
   | _,_=>False):=by
 have ti:=hG.ti _ _ hkt
 have hl2:es.length=es'.toList.length:=by simpa using hl
 have hr2:∀ (i:Nat) (p:Value×Value),es[i]? = some p→∃ e:MapEntry,es'.toList[i]? = some e∧Yf j p.1 e.key∧Yf j p.2 e.val:=by simpa using hr
 cases ha:z9M k with
 | false =>
  unfold z2K at hk
  unfold z7v at h
  rw [ha] at hk h
  have hk:zy kt.desc k=true:=hk
  have h:z0T k es 0=some r:=h
  obtain ⟨r',h1,h2⟩:=z8X hk es es'.toList 0 r hl2 hr2 h
  refine ⟨hkr.key_inv hk,sameBits_self hk,fun e w=>run_checkKey ti hk e w,r',fun w=>run_findKey ti h1 w,?_⟩
  cases r <;> cases r' <;> first | trivial | (exact False.elim h2) | skip
  obtain ⟨h3,h4,_,x,h5,h6⟩:=h2
  refine ⟨h3,h4,(List.getElem?_eq_some_iff.1 h5).1,fun e he=>?_⟩
  obtain ⟨e2,h7,h8,_⟩:=hr _ _ h5
  rw [Nat.sub_zero,he] at h7;cases h7
  rw [h6] at h8
  exact h8.key_inv hk
 | true =>
  unfold z2K at hk
  unfold z7v at h
  rw [ha] at hk h
  have hk:z3A G.E kt k=true:=hk
  have h:z5k G.E t k es 0=some r:=h
  obtain ⟨r',h1,h2⟩:=zjx (j:=j) hG hkt hk es es'.toList 0 r hl2 hr2 h
  obtain ⟨fs,cs,hd,hkk,hp,hf⟩:=z2r hk
  have inv:∀ v,Yf j k v→v=k:=fun v hv=>by
   rw [hkk] at hv ⊢
   obtain ⟨a',rfl,h5⟩:=hv.agg_inv
   rw [Array.ext' (zca hf h5)]
  refine ⟨inv _ hkr,?_,fun e w=>zbF hG hkt hk e w,r',fun w=>?_,?_⟩
  ·rw [hkk]
   show (cs.size==cs.size&&((cs.toList.zip cs.toList).all fun (x,y)=>Instr.sameBits 9999 x y))=true
   rw [beq_self_eq_true,Bool.true_and]
   exact z5z hf
  ·cases hes:es'.toList with
   | nil =>
    rw [hes] at h1
    have:=h1 w
    have e0:r'=none:=by
     have h9:(Instr.findAsking t k []).run G.P w = .ok none w:=rfl
     rw [h9] at this
     injection this with h _;exact h.symm
    subst e0
    simp [Instr.findKey,ti.run_und,Instr.findNow]
   | cons e0 l0 =>
    rw [hes] at h1
    have:Instr.findNow kt.desc k (e0::l0) 0=none:=by
     rw [hd,hkk];rfl
    simp [Instr.findKey,ti.run_und,this,h1 w]
  ·cases r <;> cases r' <;> first | trivial | (exact False.elim h2) | skip
   obtain ⟨h3,h4,_,x,h5,h6⟩:=h2
   refine ⟨h3,h4,(List.getElem?_eq_some_iff.1 h5).1,fun e he=>?_⟩
   obtain ⟨e2,h7,h8,_⟩:=hr _ _ h5
   rw [Nat.sub_zero,he] at h7;cases h7
   rw [h6] at h8
   exact inv _ h8
theorem zhZ (hG:Yj G) (hs:Sim G j S w) {t:TypeId} {x k x' k':Value} {ok:Bool} (hx:Yf j x x') (hk:Yf j k k') (h0:z0n G.E t x k ok S=some v) :
  zO G ((do pure (Next.value (←Instr.lookup t x' k' ok)):Sem Next).run G.P w) v j S w S:=by
 obtain ⟨i,hi,h⟩:=z8 h0
 clear h0
 have ti:=hG.ti t i hi
 obtain ⟨d,hd,h⟩:=z8 h
 have hD:=z8y hd
 obtain ⟨kt,hkt,h⟩:=z8 h
 obtain ⟨et,het,h⟩:=z8 h
 have te:=hG.ti _ _ het
 obtain ⟨es,hes,h⟩:=z8 h
 obtain ⟨hkk,h⟩:=ze h
 obtain ⟨r,hr,h⟩:=z8 h
 cases h
 have hmap:∃ es':Array MapEntry,zrt j es es'∧((x' = .map none∧es' = #[])∨∃ r c,x' = .map (some r)∧w.heap[r]? = some (.map es' c)):=by
  cases hx <;> simp only [mapOf] at hes <;> first | (cases hes;done) | skip
  ·cases hes;exact ⟨#[],⟨rfl,by simp⟩,.inl ⟨rfl,rfl⟩⟩
  ·obtain ⟨o,ho,hes⟩:=z8 hes
   have:=z3d hes;subst this
   obtain ⟨o',h1,es',c,h2,h3,h4,_⟩:=hs.objs _ _ _ ‹_› ho
   subst h2
   exact ⟨es',⟨h3,h4⟩,.inr ⟨_,c,rfl,h1⟩⟩
 obtain ⟨es',⟨hl,hrel⟩,hm⟩:=hmap
 obtain ⟨rfl,_,hck,r',h1,h2⟩:=zam hG hkt hkk hk hl hrel hr
 have hval:∃ v',Yf j ((r.map (·.2)).getD et.zero) v'∧(match r' with
   | some (_,v)=>(pure (v,true):Sem (Value×Bool))
   | none=>do pure (←zeroValue d.2,false)).run G.P w = .ok (v',r.isSome) w:=by
  cases r <;> cases r' <;> first | (exact False.elim h2) | skip
  ·exact ⟨et.zero,z1x j te.lit,by simp [te.run_zero]⟩
  ·exact ⟨_,h2.2.1,by simp⟩
 obtain ⟨v',h3,h4⟩:=hval
 have hrun:(Instr.lookup t x' k' ok).run G.P w = .ok (if ok then .tuple #[v',.bool r.isSome] else v') w:=by
  have hfin:∀ (e:Bool),(do
    Instr.checkKey e 10000 d.1 k'
    let (v,b) ←match ←Instr.findKey d.1 k' es'.toList with
     | some (_,v)=>pure (v,true)
     | none=>pure (←zeroValue d.2,false)
    pure (if ok then .tuple #[v,.bool b] else v):Sem Value).run G.P w = .ok (if ok then .tuple #[v',.bool r.isSome] else v') w:=by
   intro e
   simp only [Sem.run_bind,hck,h1,Result.andThen_ok]
   cases r' with
   | none =>
    cases r with
    | none =>
     simp [te.run_zero] at h4
     simp [te.run_zero,h4]
    | some _=>exact False.elim h2
   | some q =>
    cases r with
    | none=>exact False.elim h2
    | some _=>simp at h4;simp [h4]
  rcases hm with ⟨rfl,rfl⟩ | ⟨r0,c,rfl,h5⟩
  ·refine Eq.trans ?_ (hfin true)
   simp only [Instr.lookup,Sem.run_bind,ti.run_und,Result.andThen_ok,hD,Sem.run_pure]
   rfl
  ·refine Eq.trans ?_ (hfin es'.isEmpty)
   simp only [Instr.lookup,Sem.run_bind,ti.run_und,Result.andThen_ok,hD,Sem.run_pure,z2n h5]
   rfl
 cases ok with
 | false=>exact z03 hs h3 (by simpa using hrun)
 | true=>exact z03 hs (.tuple (.cons h3 (.cons (.bool _) .nil))) (by simpa using hrun)
theorem zj4 {es:List (Value×Value)} {es':Array MapEntry} {k v v':Value} (h3:es.length=es'.size) (h4:∀ (i:Nat) (p:Value×Value),es[i]? = some p→∃ e:MapEntry,es'[i]? = some e∧Yf j p.1 e.key∧Yf j p.2 e.val) (hb:∀ (i:Nat) (e:MapEntry),es'[i]? = some e→e.born=i) (hk:Yf j k k) (hv:Yf j v v') :
  (es++[(k,v)]).length=(es'.push { key:=k,val:=v',born:=es.length }).size∧(∀ (i:Nat) (p:Value×Value),(es++[(k,v)])[i]? = some p→∃ e:MapEntry,(es'.push { key:=k,val:=v',born:=es.length })[i]? = some e∧Yf j p.1 e.key∧Yf j p.2 e.val)∧es.length+1=(es++[(k,v)]).length∧∀ (i:Nat) (e:MapEntry),(es'.push { key:=k,val:=v',born:=es.length })[i]? = some e→e.born=i:=by
 refine ⟨by simp [h3],fun i p hp=>?_,by simp,fun i e he=>?_⟩
 ·by_cases hi:i<es.length
  ·rw [List.getElem?_append_left hi] at hp
   obtain ⟨e,h7,h8⟩:=h4 i p hp
   exact ⟨e,by rw [Array.getElem?_push,if_neg (by omega)];exact h7,h8⟩
  ·rw [List.getElem?_append_right (by omega)] at hp
   have:i=es.length:=by
    have:=(List.getElem?_eq_some_iff.1 hp).1
    simp at this;omega
   subst this
   simp at hp;subst hp
   exact ⟨_,by rw [Array.getElem?_push,if_pos h3],hk,hv⟩
 ·rw [Array.getElem?_push] at he
  split at he
  ·rename_i hi;cases he;show es.length=i;omega
  ·exact hb i e he
theorem zj3 {es:List (Value×Value)} {es':Array MapEntry} {k v:Value} {f:MapEntry→MapEntry} {n:Nat} (h3:es.length=es'.size) (h4:∀ (i:Nat) (p:Value×Value),es[i]? = some p→∃ e:MapEntry,es'[i]? = some e∧Yf j p.1 e.key∧Yf j p.2 e.val) (hb:∀ (i:Nat) (e:MapEntry),es'[i]? = some e→e.born=i) (hn:n<es.length) (hf:∀ e,es'[n]? = some e→Yf j k (f e).key∧Yf j v (f e).val∧(f e).born=e.born) :
  (es.set n (k,v)).length=(es'.modify n f).size∧(∀ (i:Nat) (p:Value×Value),(es.set n (k,v))[i]? = some p→∃ e:MapEntry,(es'.modify n f)[i]? = some e∧Yf j p.1 e.key∧Yf j p.2 e.val)∧es.length=(es.set n (k,v)).length∧∀ (i:Nat) (e:MapEntry),(es'.modify n f)[i]? = some e→e.born=i:=by
 refine ⟨by simp [h3],fun i p hp=>?_,by simp,fun i e he=>?_⟩
 ·rw [List.getElem?_set] at hp
  rw [Array.getElem?_modify]
  by_cases hi:n=i
  ·subst hi
   rw [if_pos rfl] at hp ⊢
   rw [if_pos hn] at hp
   cases hp
   have h11:es'[n]? = some es'[n]:=Array.getElem?_eq_getElem (by omega)
   exact ⟨_,by rw [h11];rfl,(hf _ h11).1,(hf _ h11).2.1⟩
  ·rw [if_neg hi] at hp ⊢
   exact h4 i p hp
 ·rw [Array.getElem?_modify] at he
  by_cases hi:n=i
  ·subst hi
   rw [if_pos rfl] at he
   have h11:es'[n]? = some es'[n]:=Array.getElem?_eq_getElem (by omega)
   rw [h11] at he
   cases he
   rw [(hf _ h11).2.2];exact hb _ _ h11
  ·rw [if_neg hi] at he
   exact hb i e he
theorem zhY (hG:Yj G) (hs:Sim G j S w) {t:TypeId} {m k v m' k' v':Value} (hm:Yf j m m') (hk:Yf j k k') (hv:Yf j v v') (h0:z1Y G.E t m k v S=some S') :
  zO G ((do Instr.mapUpdate t m' k' v';pure Next.skip:Sem Next).run G.P w) undef j S w S':=by
 obtain ⟨i,hi,h⟩:=z8 h0
 clear h0
 have ti:=hG.ti t i hi
 obtain ⟨d,hd,h⟩:=z8 h
 have hD:=z8y hd
 obtain ⟨kt,hkt,h⟩:=z8 h
 obtain ⟨r,hr,hA⟩:=z8 h
 obtain ⟨es,hes,hB⟩:=z8 hA
 obtain ⟨o,ho,hes'⟩:=z8 hes
 obtain ⟨hkk,hC⟩:=ze hB
 obtain ⟨f,hf,hE⟩:=z8 hC
 have hS:S'=S.put r (.map (z2Y es k v f)):=by cases hE;rfl
 clear h hA hB hC hE
 have:=z0o hr;subst this
 have:=z3d hes';subst this
 cases hm with
 | @map r x hx =>
  obtain ⟨o',h1,es',c,h2,h3,h4,hc,hb⟩:=hs.objs _ _ _ hx ho
  subst h2
  subst hc
  obtain ⟨rfl,hsb,hck,f',h5,h6⟩:=zam hG hkt hkk hk h3 h4 hf
  have hlt:x.blk<w.heap.size:=(hs.dom _ _ hx).2
  have hset:∀ o,(setObj x.blk o).run G.P w = .ok () (w.putObj x.blk o):=fun o=>by simp [setObj,Sem.run,h1,World.putObj]
  have hrun:∃ es2 c2,(Instr.mapUpdate t (.map (some x.blk)) k' v').run G.P w = .ok () (w.putObj x.blk (.map es2 c2))∧(z2Y es k' v f).length=es2.size∧(∀ (i:Nat) (p:Value×Value),(z2Y es k' v f)[i]? = some p→∃ e:MapEntry,es2[i]? = some e∧Yf j p.1 e.key∧Yf j p.2 e.val)∧c2=(z2Y es k' v f).length∧∀ (i:Nat) (e:MapEntry),es2[i]? = some e→e.born=i:=by
   simp only [Instr.mapUpdate,Sem.run_bind,ti.run_und,Result.andThen_ok,hD,z2n h1,hck,h5]
   cases f <;> cases f' <;> simp only at h6
   ·rw [zfZ]
    exact ⟨es'.push { key:=k',val:=v',born:=es.length },es.length+1,by simp [hset],zj4 h3 h4 hb hk hv⟩
   ·rename_i a b
    obtain ⟨h7,h8,h9,h10⟩:=h6
    have h11:es'[a.1]? = some es'[a.1]:=Array.getElem?_eq_getElem (by omega)
    have hek:=h10 _ h11
    rw [zfY]
    refine ⟨es'.modify a.1 fun e=>{ e with key:=k',val:=v' },es.length,?_,zj3 h3 h4 hb h9 fun e he=>⟨hk,hv,rfl⟩⟩
    simp only [←h7,h11,Option.map_some,Option.getD_some,hek,Instr.keyThatStays,hsb,if_true,Sem.run_bind,Sem.run_pure,Result.andThen_ok,hset]
  obtain ⟨es2,c2,h7,h8⟩:=hrun
  rw [hS]
  obtain ⟨h9,h10⟩:=hs.put hx ⟨_,ho,by simp⟩ (World.putObj_size) (World.putObj_heap_same hlt) (fun c hc=>World.putObj_heap_other hc) (o:=.map (z2Y es k' v f)) ⟨es2,c2,rfl,h8⟩
  exact ⟨undef,_,j,.inr ⟨by simp [h7],rfl⟩,.tuple .nil,h9,h10 _ (Nat.min_le_left _ _),Nat.min_le_right _ _⟩
theorem zkB (hG:Yj G) (hs:Sim G j S w) {t:TypeId} {m k m' k':Value} {r:Value×St} (hm:Yf j m m') (hk:Yf j k k') (h0:z7f G.E t m k S=some r) :
  zO G ((do pure (Next.value (←Instr.mapEntry t m' k')):Sem Next).run G.P w) r.1 j S w r.2:=by
 obtain ⟨i,hi,h⟩:=z8 h0
 clear h0
 have ti:=hG.ti t i hi
 obtain ⟨d,hd,h⟩:=z8 h
 have hD:=z8y hd
 obtain ⟨kt,hkt,h⟩:=z8 h
 obtain ⟨et,het,h⟩:=z8 h
 have te:=hG.ti _ _ het
 obtain ⟨q,hq,hA⟩:=z8 h
 obtain ⟨es,hes,hB⟩:=z8 hA
 obtain ⟨o,ho,hes'⟩:=z8 hes
 obtain ⟨hkk,hC⟩:=ze hB
 obtain ⟨f,hf,hE⟩:=z8 hC
 clear h hA hB hC
 have:=z0o hq;subst this
 have:=z3d hes';subst this
 cases hm with
 | @map q x hx =>
  obtain ⟨o',h1,es',c,h2,h3,h4,hc,hb⟩:=hs.objs _ _ _ hx ho
  subst h2
  subst hc
  obtain ⟨rfl,hsb,hck,f',h5,h6⟩:=zam hG hkt hkk hk h3 h4 hf
  have hlt:x.blk<w.heap.size:=(hs.dom _ _ hx).2
  have hset:∀ o,(setObj x.blk o).run G.P w = .ok () (w.putObj x.blk o):=fun o=>by simp [setObj,Sem.run,h1,World.putObj]
  cases f <;> cases f' <;> simp only at h6
  ·cases hE
   have hrun:(Instr.mapEntry t (.map (some x.blk)) k').run G.P w = .ok (.tuple #[et.zero,.int .i64 es.length]) (w.putObj x.blk (.map (es'.push { key:=k',val:=et.zero,born:=es.length }) (es.length+1))):=by
    simp only [Instr.mapEntry,Sem.run_bind,ti.run_und,Result.andThen_ok,hD,z2n h1,hck,h5,te.run_zero,hset,Sem.run_pure]
    rfl
   obtain ⟨h9,h10⟩:=hs.put hx ⟨_,ho,by simp⟩ (World.putObj_size) (World.putObj_heap_same hlt) (fun c hc=>World.putObj_heap_other hc) (o:=.map (es++[(k',et.zero)])) ⟨_,_,rfl,zj4 h3 h4 hb hk (z1x j te.lit)⟩
   exact ⟨_,_,j,.inl (by simp [hrun]),.tuple (.cons (z1x j te.lit) (.cons (.int _ _) .nil)),h9,h10 _ (Nat.min_le_left _ _),Nat.min_le_right _ _⟩
  ·rename_i a b
   cases hE
   obtain ⟨h7,h8,h9,h10⟩:=h6
   have h11:es'[a.1]? = some es'[a.1]:=Array.getElem?_eq_getElem (by omega)
   have hek:=h10 _ h11
   have hborn:=hb _ _ h11
   have hrun:(Instr.mapEntry t (.map (some x.blk)) k').run G.P w = .ok (.tuple #[b.2,.int .i64 a.1]) (w.putObj x.blk (.map (es'.modify a.1 fun e=>{ e with key:=k' }) es.length)):=by
    simp only [Instr.mapEntry,Sem.run_bind,ti.run_und,Result.andThen_ok,hD,z2n h1,hck,h5,←h7,h11,Option.map_some,Option.getD_some,hek,Instr.keyThatStays,hsb,if_true,Sem.run_pure,hset,hborn]
    rfl
   obtain ⟨x0,hx0⟩:∃ x0,es[a.1]? = some x0:=⟨_,List.getElem?_eq_getElem h9⟩
   have hse:=zj3 (j:=j) (n:=a.1) (k:=x0.1) (v:=x0.2) (f:=fun e=>{ e with key:=k' }) h3 h4 hb h9 fun e he=>by
    obtain ⟨e2,k1,k2,k3⟩:=h4 _ _ hx0
    rw [he] at k1;cases k1
    have:=h10 _ he
    exact ⟨by show Yf j x0.1 k';rw [←this];exact k2,k3,rfl⟩
   have hsame:es.set a.1 (x0.1,x0.2)=es:=by
    refine List.ext_getElem? fun n=>?_
    rw [List.getElem?_set]
    split
    ·rename_i hn;subst hn;exact hx0.symm
    ·rfl
   rw [hsame] at hse
   obtain ⟨h12,h13⟩:=hs.put hx ⟨_,ho,by simp⟩ (World.putObj_size) (World.putObj_heap_same hlt) (fun c hc=>World.putObj_heap_other hc) (o:=.map es) ⟨_,_,rfl,hse⟩
   exact ⟨_,_,j,.inl (by simp [hrun]),.tuple (.cons h8 (.cons (.int _ _) .nil)),h12,h13 _ (Nat.min_le_left _ _),Nat.min_le_right _ _⟩
theorem find_born {n:Nat} {es':Array MapEntry} (hb:∀ (i:Nat) (e:MapEntry),es'[i]? = some e→e.born=i) (hn:n<es'.size):es'.findIdx? (fun e=>(e.born:Int)==(n:Int))=some n:=by
 rw [Array.findIdx?_eq_some_iff_getElem]
 refine ⟨hn,?_,fun k hk=>?_⟩
 ·rw [hb n _ (Array.getElem?_eq_getElem hn)];exact beq_self_eq_true _
 ·rw [hb k _ (Array.getElem?_eq_getElem (by omega))]
  simp only [beq_iff_eq]
  omega
theorem zdk (hs:Sim G j S w) {t:TypeId} {m s v m' s' v':Value} (hm:Yf j m m') (hk:Yf j s s') (hv:Yf j v v') (h0:z2C m s v S=some S') :
  zO G ((do Instr.entryStore t m' s' v';pure Next.skip:Sem Next).run G.P w) undef j S w S':=by
 obtain ⟨q,hq,hA⟩:=z8 h0
 obtain ⟨es,hes,hB⟩:=z8 hA
 obtain ⟨o,ho,hes'⟩:=z8 hes
 obtain ⟨n,hn,hC⟩:=z8 hB
 obtain ⟨p,hp,hE⟩:=z8 hC
 clear h0 hA hB hC
 have:=z0o hq;subst this
 have:=z3d hes';subst this
 have hsn:∃ kk,s = .int kk (Int.ofNat n):=by
  unfold z3N at hn
  split at hn
  ·rename_i kk m;cases hn;exact ⟨kk,rfl⟩
  ·cases hn
 obtain ⟨kk,rfl⟩:=hsn
 cases hk
 cases hE
 cases hm with
 | @map q x hx =>
  obtain ⟨o',h1,es',c,h2,h3,h4,hc,hb⟩:=hs.objs _ _ _ hx ho
  subst h2
  subst hc
  have hlt:x.blk<w.heap.size:=(hs.dom _ _ hx).2
  have hnl:n<es.length:=(List.getElem?_eq_some_iff.1 hp).1
  have hset:∀ o,(setObj x.blk o).run G.P w = .ok () (w.putObj x.blk o):=fun o=>by simp [setObj,Sem.run,h1,World.putObj]
  have hrun:(Instr.entryStore t (.map (some x.blk)) (.int kk (Int.ofNat n)) v').run G.P w = .ok () (w.putObj x.blk (.map (es'.modify n fun e=>{ e with val:=v' }) es.length)):=by
   have:=find_born hb (show n<es'.size by omega)
   simp only [Instr.entryStore,Sem.run_bind,z2n h1,Result.andThen_ok,asInt,asIntOf,Sem.run_pure,yl,this,hset]
  have hse:=zj3 (j:=j) (n:=n) (k:=p.1) (v:=v) (f:=fun e=>{ e with val:=v' }) h3 h4 hb hnl fun e he=>by
   obtain ⟨e2,k1,k2,k3⟩:=h4 _ _ hp
   rw [he] at k1;cases k1
   exact ⟨k2,hv,rfl⟩
  obtain ⟨h12,h13⟩:=hs.put hx ⟨_,ho,by simp⟩ (World.putObj_size) (World.putObj_heap_same hlt) (fun c hc=>World.putObj_heap_other hc) (o:=.map (es.set n (p.1,v))) ⟨_,_,rfl,hse⟩
  exact ⟨undef,_,j,.inr ⟨by simp only [Sem.run_bind,hrun,Result.andThen_ok,Sem.run_pure],rfl⟩,.tuple .nil,h12,h13 _ (Nat.min_le_left _ _),Nat.min_le_right _ _⟩
theorem zkx (hG:Yj G) (hs:Sim G j S w) {t:TypeId} {x x':Value} {r:Value×St} (hx:Yf j x x') (h0:z6x G.E t x S=some r) :
  zO G ((do pure (Next.value (←Instr.range t x')):Sem Next).run G.P w) r.1 j S w r.2:=by
 obtain ⟨i,hi,h⟩:=z8 h0
 clear h0
 have ti:=hG.ti t i hi
 generalize hD:i.desc=D at h
 split at h
 ·cases h
  have:=hx.string_inv;subst this
  rename_i s
  obtain ⟨h1,h2⟩:=hs.new ⟨w.heap.size,0,0,0⟩ (o:=.strIter s 0) (o':=.stringIter s 0) rfl ⟨rfl,rfl⟩
  exact ⟨_,_,_,.inl (by simp [Instr.range,ti.run_und,hD,World.alloc_eq]),zas _ _ _ _ rfl,h1,h2 _,ym _⟩
 ·cases h
  cases hx
  obtain ⟨h1,h2⟩:=hs.new ⟨w.heap.size,0,0,0⟩ (o:=.nilIter) (o':=.mapIter none 0 #[] 0) rfl ⟨rfl,_,_,_,rfl⟩
  exact ⟨_,_,_,.inl (by simp [Instr.range,ti.run_und,hD,World.alloc_eq]),zas _ _ _ _ rfl,h1,h2 _,ym _⟩
 ·cases h
end
section
variable {G:Good} {j:Inj} {S S':St} {w:World} {v:Value} {T:Fr} {ρ : Operand→Value}
theorem zng (hs:Sim G j S w) {x x':Value} {str:Bool} {ty:TypeId} {r:Value×St} (hx:Yf j x x') (h0:z6Y x str S=some r) :
  zO G ((do pure (Next.value (←Instr.next x' str ty)):Sem Next).run G.P w) r.1 j S w r.2:=by
 obtain ⟨a,ha,h1⟩:=z8 h0
 obtain ⟨hoff,h2⟩:=ze h1
 obtain ⟨hsp,h3⟩:=z0l h2
 obtain ⟨o,ho,h4⟩:=z8 h3
 clear h0 h1 h2 h3
 have:=z1e ha;subst this
 have hoff:=zm hoff
 obtain ⟨a',rfl,_,y,hy,rfl⟩:=hx.ptr_inv
 obtain ⟨o',h5,h6⟩:=hs.objs _ _ _ hy ho
 unfold zdr at h4
 split at h4
 ·cases h4
  obtain ⟨hd,b1,b2,b3,rfl⟩:=h6
  refine z03 hs (.tuple (.cons (.bool _) .nil)) ?_
  have hg:(getObj y.blk).run G.P w = .ok (.mapIter none b1 b2 b3) w:=by simp [getObj,Sem.run,h5]
  rw [hoff,hd]
  simp only [Instr.next,Nat.add_zero,Sem.run_bind,hg,Result.andThen_ok,Sem.run_pure]
 ·rename_i s pos
  obtain ⟨hd,rfl⟩:=h6
  have hg:(getObj y.blk).run G.P w = .ok (.stringIter s pos) w:=by simp [getObj,Sem.run,h5]
  have hlt:y.blk<w.heap.size:=(hs.dom _ _ hy).2
  have hset:∀ o,(setObj y.blk o).run G.P w = .ok () (w.putObj y.blk o):=fun o=>by simp [setObj,Sem.run,h5,World.putObj]
  cases hb:Nat.blt pos s.size with
  | true =>
   rw [hb] at h4
   cases h4
   have hp:=z0w hb
   obtain ⟨h9,h10⟩:=hs.put hy ⟨_,ho,by simp⟩ (World.putObj_size) (World.putObj_heap_same hlt) (fun c hc=>World.putObj_heap_other hc) (o:=.strIter s (pos+(Utf8.decode s pos).2)) (o':=.stringIter s (pos+(Utf8.decode s pos).2)) ⟨hd,rfl⟩
   refine ⟨_,_,j,.inl ?_,.tuple (.cons (.bool _) (.cons (.int _ _) (.cons (.int _ _) .nil))),h9,h10 _ (Nat.min_le_left _ _),Nat.min_le_right _ _⟩
   rw [hoff,hd]
   simp only [Instr.next,Nat.add_zero,Sem.run_bind,hg,Result.andThen_ok,hp,if_true,hset,Sem.run_pure]
   rfl
  | false =>
   rw [hb] at h4
   cases h4
   have hp:¬ pos<s.size:=fun h=>by
    have:=Nat.ble_eq_true_of_le (show pos+1≤s.size from h)
    rw [show Nat.blt pos s.size=Nat.ble (pos+1) s.size from rfl] at hb
    rw [hb] at this;cases this
   refine z03 hs (.tuple (.cons (.bool _) .nil)) ?_
   rw [hoff,hd]
   simp only [Instr.next,Nat.add_zero,Sem.run_bind,hg,Result.andThen_ok,hp,if_false,Sem.run_pure]
 ·cases h4
theorem z8Q {α : Type} {l:List α} {x : α} {l':Array α} (hl:l'.toList=l) (h:l.head? = some x):l'[0]? = some x:=by
 rw [←Array.getElem?_toList,hl,←List.head?_eq_getElem?];exact h
theorem zcY {l:List Value} {l':Array Value} {x:Value} (hr:Yh j l l'.toList) (h:l.head? = some x):∃ x',l'[0]? = some x'∧Yf j x x':=by
 rw [List.head?_eq_getElem?] at h
 obtain ⟨x',h1,h2⟩:=hr.get h
 exact ⟨x',by rw [←Array.getElem?_toList];exact h1,h2⟩
theorem zjW {l:List Value} {l':Array Value} {x:Value} {i:Nat} (hr:Yh j l l'.toList) (h:l[i]? = some x):∃ x',l'[i]? = some x'∧Yf j x x':=by
 obtain ⟨x',h1,h2⟩:=hr.get h
 exact ⟨x',by rw [←Array.getElem?_toList];exact h1,h2⟩
theorem zfK {ts:Array TypeId} {t:TypeId} {i:Nat} (h:ts.toList[i]? = some t):ts[i]? = some t:=by rw [←Array.getElem?_toList];exact h
theorem zg8 (hs:Sim G j S w) {m m':Value} {es:List (Value×Value)} (hm:Yf j m m') (h:mapOf S m=some es) :
  (m' = .map none∧es=[])∨∃ r es' c,m' = .map (some r)∧w.heap[r]? = some (.map es' c)∧es.length=es'.size:=by
 cases hm <;> simp only [mapOf] at h <;> first | (cases h;done) | skip
 ·cases h;exact .inl ⟨rfl,rfl⟩
 ·obtain ⟨o,ho,h1⟩:=z8 h
  have:=z3d h1;subst this
  obtain ⟨o',h1,es',c,h2,h3,_⟩:=hs.objs _ _ _ ‹_› ho
  subst h2
  exact .inr ⟨_,es',c,rfl,h1,h3⟩
theorem zpW (hG:Yj G) (hs:Sim G j S w) {ts:Array TypeId} {ty:TypeId} {args:List Value} {args':Array Value} {r:Value×St} (ha:Yh j args args'.toList) (h0:zjs G.E ts.toList args S=some r) :
  zO G ((do pure (Next.value (←Builtin.len_ ts ty args')):Sem Next).run G.P w) r.1 j S w r.2:=by
 obtain ⟨t,ht,h1⟩:=z8 h0
 obtain ⟨x,hx,h2⟩:=z8 h1
 obtain ⟨i,hi,h3⟩:=z8 h2
 obtain ⟨u,hu,h4⟩:=z8 h3
 clear h0 h1 h2 h3
 cases h4
 have ti:=hG.ti t i hi
 have ht:=z8Q rfl ht
 obtain ⟨x',hx',hrel⟩:=zcY ha hx
 have hlit:zii u=true:=by
  unfold zf4 at hu
  split at hu
  ·cases hu;rfl
  ·cases hu;rfl
  ·obtain ⟨_,_,h⟩:=z8 hu;cases h;rfl
  ·cases hu;rfl
  ·cases hu
 refine z03 hs (z4y j hlit) ?_
 simp only [Builtin.len_,ht,hx',Sem.run_bind,ti.run_und,Result.andThen_ok]
 unfold zf4 at hu
 generalize i.desc=D at hu
 split at hu
 ·cases hu;have:=hrel.string_inv;subst this;rfl
 ·cases hu;cases hrel <;> rfl
 ·obtain ⟨es,hes,h⟩:=z8 hu
  cases h
  rcases zg8 hs hrel hes with ⟨rfl,rfl⟩ | ⟨r,es',c,rfl,h1,h2⟩
  ·rfl
  ·simp only [Sem.run_bind,z2n h1,Result.andThen_ok,Sem.run_pure,h2];rfl
 ·cases hu;rfl
 ·cases hu
theorem zpX (hG:Yj G) (hs:Sim G j S w) {ts:Array TypeId} {ty:TypeId} {args:List Value} {args':Array Value} {r:Value×St} (ha:Yh j args args'.toList) (h0:zpY G.E ts.toList args S=some r) :
  zO G ((do pure (Next.value (←Builtin.cap_ ts ty args')):Sem Next).run G.P w) r.1 j S w r.2:=by
 obtain ⟨t,ht,h1⟩:=z8 h0
 obtain ⟨x,hx,h2⟩:=z8 h1
 obtain ⟨i,hi,h3⟩:=z8 h2
 obtain ⟨e,he,h4⟩:=z8 h3
 obtain ⟨q,hq,h5⟩:=z8 h4
 obtain ⟨hsp,h6⟩:=ze h5
 clear h0 h1 h2 h3 h4 h5
 cases h6
 have ti:=hG.ti t i hi
 have hD:=z1G he
 have ht:=z8Q rfl ht
 obtain ⟨x',hx',hrel⟩:=zcY ha hx
 have:=z1i hq;subst this
 refine z03 hs (.int _ _) ?_
 simp only [Builtin.cap_,ht,hx',Sem.run_bind,ti.run_und,Result.andThen_ok,hD]
 obtain ⟨qa,qn,qc⟩:=q
 cases hrel with
 | nilSlice=>rfl
 | slice hr =>
  obtain ⟨_,_,_,_,_,hex,_⟩:=hr
  simp only [zia,Option.bind_some,Option.isNone_iff_eq_none] at hsp
  have:=hex hsp
  subst this
  rfl
theorem zpV (hs:Sim G j S w) {ts:Array TypeId} {ty:TypeId} {args:List Value} {args':Array Value} {r:Value×St} (ha:Yh j args args'.toList) (h0:zjr args S=some r) :
  zO G ((do pure (Next.value (←Builtin.max_ ts ty args')):Sem Next).run G.P w) r.1 j S w r.2:=by
 unfold zjr at h0
 split at h0
 ·cases h0
  obtain ⟨l⟩:=args'
  cases ha with
  | cons h1 h2=>cases h2 with
   | cons h3 h4 =>
    cases h4;cases h1;cases h3
    refine z03 hs (.int _ _) ?_
    simp [Builtin.max_,Builtin.max2]
 ·cases h0
theorem zpU (hs:Sim G j S w) {ts:Array TypeId} {ty:TypeId} {args:List Value} {args':Array Value} {r:Value×St} (ha:Yh j args args'.toList) (h0:zjq args S=some r) :
  zO G ((do pure (Next.value (←Builtin.min_ ts ty args')):Sem Next).run G.P w) r.1 j S w r.2:=by
 unfold zjq at h0
 split at h0
 ·cases h0
  obtain ⟨l⟩:=args'
  cases ha with
  | cons h1 h2=>cases h2 with
   | cons h3 h4 =>
    cases h4;cases h1;cases h3
    refine z03 hs (.int _ _) ?_
    simp [Builtin.min_,Builtin.min2]
 ·cases h0
theorem z5j (hs:Sim G j S w) {size n k:Nat} {x x':Value} {c:List Value} (hx:Yf j x x') (hk:z2R x=some k) (hn:n≤k) (h:z0E G.E size n x S=some c) :
  ∃ c':List Value,(∀ w',w'.heap=w.heap→(Builtin.firstCells size n x').run G.P w' = .ok c'.toArray w')∧Yh j c c':=by
 unfold z0E at h
 split at h
 ·rename_i a n0 c0
  obtain ⟨cs,hcs,h1⟩:=z8 h
  cases hk
  cases hx with
  | @slice _ a' _ _ c' hr =>
   obtain ⟨y,hy,hb,hsp,hnn,_,_,hd⟩:=hr
   by_cases h0:n=0
   ·subst h0
    obtain ⟨hl,rfl⟩:=z3E h1
    refine ⟨[],fun w' _=>?_,by simpa using Yh.nil⟩
    simp [Builtin.firstCells,loadCells,loadCellsFrom]
   ·obtain ⟨hoff,_⟩:=hd.resolve_left (by omega)
    have ha':a'=⟨y.blk,a.off+y.delta,none⟩:=by
     have hb:=hb (by omega)
     have hsp:=hsp (by omega)
     cases a';simp_all
    obtain ⟨d',h2,h3⟩:=hs.loadsW hy hcs h1 ha'
    exact ⟨d',h2,h3⟩
 ·obtain ⟨_,h1⟩:=ze h
  cases h1
  cases hx
  exact ⟨[],fun _ _=>rfl,.nil⟩
 ·rename_i s
  cases h
  have:=hx.string_inv;subst this
  cases hk
  refine ⟨(s.data.toList.take n).map fun b=>Value.int .u8 b.toNat,fun w' _=>?_,?_⟩
  ·simp only [Builtin.firstCells,Sem.run_pure]
   congr 1
   apply Array.ext'
   simp [ByteArray.data_extract]
  ·generalize s.data.toList.take n=l
   induction l with
   | nil=>exact .nil
   | cons b l ih=>exact .cons (.int _ _) ih
 ·cases h
theorem z3s (z:Array Value) (n:Nat):(Builtin.zeroCells z n).toList=zeros z.toList n:=z4W z n
theorem zcj (need:Nat):∀ (r c:Nat),Builtin.growBy need r c≤2 ^ r*(c+256)
 | 0,c=>by simp [Builtin.growBy]
 | r+1,c=>by
  unfold Builtin.growBy
  split
  ·have:1≤2 ^ (r+1):=Nat.one_le_two_pow
   have:=Nat.mul_le_mul_right (c+256) this
   omega
  ·refine yn (zcj need r _) ?_
   rw [Nat.pow_succ,Nat.mul_assoc]
   exact Nat.mul_le_mul_left _ (by omega)
theorem z9C {need old bytes:Nat} (h1:old<need) (h2:need≤1048576) (h3:bytes≤4096):¬ (Builtin.nextslicecap need old*bytes > 2 ^ 48):=by
 have:Builtin.nextslicecap need old≤33554432:=by
  clear h3
  unfold Builtin.nextslicecap
  split
  ·omega
  ·split
   ·omega
   ·have:=zcj need 4 old
    have e:2 ^ 4*(old+256)=16*(old+256):=rfl
    exact yn this (by rw [e];omega)
 exact Nat.not_lt.2 (yn (Nat.mul_le_mul this h3) (by decide))
theorem z3r (j:Inj) (b n k m:Nat) (x:JB) (hx:x.delta=0) (hb:x.blk=b) (hk:k*x.esize≤x.csize) (hn:n≤k):Yf (j.ext m x) (.slice (some ⟨m,0,some 0⟩) n n) (.slice (some ⟨b,0,none⟩) n k):=by
 refine .slice ⟨x,z1O _ _ _,fun _=>hb.symm,fun _=>rfl,hn,(fun h=>by cases h),hn,.inr ⟨?_,.inr ?_⟩⟩
 ·show 0=0+x.delta;omega
 ·show 0+k*x.esize≤x.csize;omega
end
section
variable {G:Good} {j:Inj} {S S':St} {w:World} {v:Value} {T:Fr} {ρ : Operand→Value}
def grown (w:World) (size:Nat) (e:LTy) (elem:TypeId) (base:Option Addr) (sLen sCap k:Nat) (new':List Value):Sem Value :=
 if sLen+k≤sCap then do
  (
   match base with
   | some a=>storeCells (a.add (sLen*size)) new'
   | none=>pure ())
  pure (.slice base (sLen+k) sCap)
 else do
  let newCap ←choose (.appendCap (sLen+k) sCap elem)
  let old ←Builtin.firstCells size sLen (.slice base sLen sCap)
  pure (.slice (some (←newRow elem (old++new'.toArray++Builtin.zeroCells e.zero.cells (newCap - (sLen+k))))) (sLen+k) newCap)
theorem z6J {P:Program} (need old:Nat) (elem:TypeId) (w:World):∃ c w',(choose (.appendCap need old elem)).run P w = .ok c w'∧need≤c∧w'.heap=w.heap∧SameIo w w':=by
 refine ⟨_,_,(run_choose P w _).trans (if_neg (by simp [Question.forced])),?_,rfl,rfl,rfl,rfl⟩
 simp only [Question.cut];omega
theorem zcL {P:Program} {ts:Array TypeId} {sT xT ty elem:TypeId} {e ui:LTy} (te:TiOK P elem e) (tu:TiOK P xT ui) (hsT:P.underlying sT=some (.slice elem)) (h0:ts[0]? = some sT) (h1:ts[1]? = some xT)
  (hz:zio ui.desc=true) {base:Option Addr} {sLen sCap k:Nat} {x':Value} {args:Array Value} (ha0:args[0]? = some (.slice base sLen sCap)) (ha1:args[1]? = some x') {new':List Value}
  (hlen:(Builtin.lenOf x')=pure k) (hfc:∀ w',w'.heap=w.heap→(Builtin.firstCells e.size k x').run P w' = .ok new'.toArray w') (hold:sLen+k≤sCap∨∃ o,∀ w',w'.heap=w.heap→(Builtin.firstCells e.size sLen (.slice base sLen sCap)).run P w' = .ok o w')
  (hkb:sLen+k≤sCap∨(sLen+k≤1048576∧e.bytes≤4096)) :
  (Builtin.append_ ts ty args).run P w=(grown w e.size e elem base sLen sCap k new').run P w:=by
 obtain ⟨ii,hii,hby,_⟩:=te.run_info w
 have hii':∀ w',(typeInfo elem).run P w' = .ok ii w':=by
  obtain ⟨i2,hi2,hb2,_⟩:=te.info
  intro w'
  have h3:(typeInfo elem).run P w = .ok i2 w:=by simp [typeInfo,hi2]
  rw [h3] at hii;cases hii
  simp [typeInfo,hi2]
 have hund:=tu.run_und
 generalize ui.desc=D at hz hund
 cases D <;> first | (cases hz;done) | skip
 all_goals
   simp only [Builtin.append_,h0,h1,ha0,ha1,Sem.run_bind,run_underlying hsT,te.run_size,hund,Result.andThen_ok,Sem.run_pure,Bool.false_eq_true,if_false,hlen]
   unfold grown
   by_cases hn:sLen+k≤sCap
   ·rw [if_pos hn,if_pos hn]
    simp only [Bool.not_false,if_true,Sem.run_bind,hfc w rfl,Result.andThen_ok]
    cases base <;> simp
   ·rw [if_neg hn,if_neg hn]
    obtain ⟨hk,hb⟩:=hkb.resolve_left hn
    have hmax:¬ (((sLen+k:Nat):Int) > IntKind.i64.max∧(False∨ii.bytes=0)):=by
     rintro ⟨h,_⟩
     have:IntKind.i64.max=9223372036854775807:=by decide
     rw [this] at h
     have:((sLen+k:Nat):Int)≤1048576:=Int.ofNat_le.2 hk
     exact absurd h (by omega)
    have hnx:¬ (Builtin.nextslicecap (sLen+k) sCap*ii.bytes > 2 ^ 48):=z9C (by omega) hk (by omega)
    simp only [Sem.run_bind,hii',Result.andThen_ok]
    rw [if_neg (by simpa using hmax)]
    simp only [Sem.run_bind,hii',Result.andThen_ok]
    rw [if_neg hnx]
    simp only [Sem.run_bind,hii',Result.andThen_ok]
    obtain ⟨c,w',hc,_,hw',_⟩:=z6J (P:=P) (sLen+k) sCap elem w
    rw [hc]
    obtain ⟨o,ho⟩:=hold.resolve_left hn
    simp only [Result.andThen_ok,run_askRoom,ho w' hw',Bool.not_false,if_true,hfc w' hw',te.run_zero,Sem.run_pure,hii',Sem.run_bind]
theorem zcK {P:Program} {ts:Array TypeId} {sT xT ty elem:TypeId} {e ui:LTy} (te:TiOK P elem e) (tu:TiOK P xT ui) (hsT:P.underlying sT=some (.slice elem)) (h0:ts[0]? = some sT) (h1:ts[1]? = some xT)
  (hz:z8G ui.desc=true) {base:Option Addr} {sLen sCap k:Nat} {kk:IntKind} {args:Array Value} (ha0:args[0]? = some (.slice base sLen sCap)) (ha1:args[1]? = some (.int kk (k:Int)))
  (hzs:k=0∨e.zero.cells.size=e.size) (hold:sLen+k≤sCap∨∃ o,∀ w',w'.heap=w.heap→(Builtin.firstCells e.size sLen (.slice base sLen sCap)).run P w' = .ok o w')
  (hk1:k≤1048576) (hb:e.bytes≤4096) (hkb0:sLen+k≤sCap∨sLen+k≤1048576) :
  (Builtin.append_ ts ty args).run P w=(grown w e.size e elem base sLen sCap k (zeros e.zero.cells.toList k)).run P w:=by
 obtain ⟨ii,hii,hby,_⟩:=te.run_info w
 have hii':∀ w',(typeInfo elem).run P w' = .ok ii w':=by
  obtain ⟨i2,hi2,hb2,_⟩:=te.info
  intro w'
  have h3:(typeInfo elem).run P w = .ok i2 w:=by simp [typeInfo,hi2]
  rw [h3] at hii;cases hii
  simp [typeInfo,hi2]
 have hw:IntKind.i64.wrap (k:Int)=k:=wrap_small (by omega)
 have hkb:¬ ((k:Int)*(ii.bytes:Int) > 2 ^ 48):=by
  have h3:k*ii.bytes≤1048576*4096:=Nat.mul_le_mul (by omega) (by omega)
  have h4:=Int.ofNat_le.2 h3
  rw [Int.natCast_mul] at h4
  exact Int.not_lt.2 (Int.le_trans h4 (by decide))
 have happ:∀ w',(if k*e.size=0 then (pure #[]:Sem (Array Value)) else do pure (Builtin.zeroCells (←zeroValue elem).cells k)).run P w' = .ok (zeros e.zero.cells.toList k).toArray w':=by
  intro w'
  split
  ·rename_i h
   have:zeros e.zero.cells.toList k=[]:=by
    apply List.eq_nil_of_length_eq_zero
    rw [z2J,Array.length_toList]
    rcases hzs with h2 | h2
    ·rw [h2];simp
    ·rw [h2];exact h
   rw [this];rfl
  ·simp only [Sem.run_bind,te.run_zero,Result.andThen_ok,Sem.run_pure]
   congr 1
   rw [←z3s,Array.toArray_toList]
 have hund:=tu.run_und
 generalize ui.desc=D at hz hund
 cases D <;> first | (cases hz;done) | skip
 all_goals
   simp only [Builtin.append_,h0,h1,ha0,ha1,Sem.run_bind,run_underlying hsT,te.run_size,hund,Result.andThen_ok,Sem.run_pure,if_true,asInt,asIntOf,hw]
   rw [if_neg (by omega)]
   simp only [Sem.run_bind,hii',Result.andThen_ok]
   rw [if_neg hkb]
   simp only [Sem.run_bind,hii',Result.andThen_ok,Sem.run_pure,Int.toNat_natCast]
   unfold grown
   by_cases hn:sLen+k≤sCap
   ·rw [if_pos hn,if_pos hn]
    simp only [Bool.not_true,Bool.false_eq_true,if_false,Sem.run_bind,happ w,Result.andThen_ok]
    cases base <;> simp
   ·rw [if_neg hn,if_neg hn]
    have hk:=hkb0.resolve_left hn
    have hmax:¬ ((sLen+k:Nat):Int) > IntKind.i64.max:=by
     intro h
     have:IntKind.i64.max=9223372036854775807:=by decide
     rw [this] at h
     have:((sLen+k:Nat):Int)≤1048576:=Int.ofNat_le.2 hk
     exact absurd h (by omega)
    have hnx:¬ (Builtin.nextslicecap (sLen+k) sCap*ii.bytes > 2 ^ 48):=z9C (by omega) hk (by omega)
    simp only [Sem.run_bind,hii',Result.andThen_ok]
    rw [if_neg (fun h=>hmax h.1)]
    simp only [Sem.run_bind,hii',Result.andThen_ok]
    rw [if_neg hnx]
    simp only [Sem.run_bind,hii',Result.andThen_ok]
    obtain ⟨c,w',hc,_,hw',_⟩:=z6J (P:=P) (sLen+k) sCap elem w
    rw [hc]
    obtain ⟨o,ho⟩:=hold.resolve_left hn
    simp only [Result.andThen_ok,run_askRoom,ho w' hw',Bool.not_true,Bool.false_eq_true,if_false,happ w',te.run_zero,Sem.run_pure,hii',Sem.run_bind]
end
section
variable {G:Good} {j:Inj} {S S':St} {w:World} {v:Value} {T:Fr} {ρ : Operand→Value}
theorem zaS (hs:Sim G j S w) {w0:World} (hw0:w.heap=w0.heap) (hio:SameIo w0 w) {elem:TypeId} {e:LTy} (he:G.E.ti.get elem=some e) (hz:e.zero.cells.size=e.size) {old old' new new':List Value} (ho:Yh j old old') (hn:Yh j new new') {n k cap:Nat}
  (hol:old'.length=n*e.size) (hnl:new'.length=k*e.size) (hc:n+k≤cap) :
  ∃ v' w' j',(do pure (Value.slice (some (←newRow elem (old'.toArray++new'.toArray++Builtin.zeroCells e.zero.cells (cap - (n+k))))) (n+k) cap):Sem Value).run G.P w = .ok v' w' ∧
   Yf j' (.slice (some ⟨S.size,0,some 0⟩) (n+k) (n+k)) v'∧Sim G j' (S.new (.cells (old++new) elem)) w'∧∀ lo,Ext lo j S w0 j' (S.new (.cells (old++new) elem)) w':=by
 obtain ⟨h1,h2⟩:=hs.newRow (rest:=zeros e.zero.cells.toList (cap - (n+k))) elem elem (ho.append hn)
 refine ⟨.slice (some ⟨w.heap.size,0,none⟩) (n+k) cap,_,_,?_,z3r _ _ _ _ _ ⟨w.heap.size,0,_,_⟩ rfl rfl ?_ hc,h1,fun lo=>(h2 lo).heap_eq hw0 hio⟩
 ·have:old'.toArray++new'.toArray++Builtin.zeroCells e.zero.cells (cap - (n+k))=(old'++new'++zeros e.zero.cells.toList (cap - (n+k))).toArray:=by
   apply Array.ext'
   simp [z3s]
  simp only [Sem.run_bind,Go.newRow,run_newObj,Result.andThen_ok,Sem.run_pure,this,World.alloc_eq]
 ·show cap*esz G elem≤(old'++new'++zeros e.zero.cells.toList (cap - (n+k))).length
  simp only [esz,he,Option.map_some,Option.getD_some,List.length_append,z2J,Array.length_toList,hol,hnl,hz,←Nat.add_mul]
  rw [show n+k+(cap - (n+k))=cap by omega]
  exact ym _
theorem z1I {b:Nat} {c:List Value×TypeId} (h:S.cells b=some c):live S b:=⟨_,z1J h,by simp⟩
theorem z2W {a:Addr} (h:a.spot=none):S.spent a=S:=by unfold St.spent;rw [h]
theorem z2m {a:Addr} {i:Nat} (h:a.spot=some i):S.spent a=S.put a.block .dead:=by unfold St.spent;rw [h]
theorem z5M {P:Program} {size:Nat} {e:LTy} {elem:TypeId} {base:Option Addr} {n c k:Nat} {new' old':List Value} (hn:¬ n+k≤c) (ho:∀ w',w'.heap=w.heap→(Builtin.firstCells size n (.slice base n c)).run P w' = .ok old'.toArray w') :
  ∃ cap w',(w'.heap=w.heap∧SameIo w w')∧n+k≤cap∧(grown w size e elem base n c k new').run P w =
   (do pure (Value.slice (some (←newRow elem (old'.toArray++new'.toArray++Builtin.zeroCells e.zero.cells (cap - (n+k))))) (n+k) cap):Sem Value).run P w':=by
 obtain ⟨cap,w',h1,h2,h3,hio⟩:=z6J (P:=P) (n+k) c elem w
 refine ⟨cap,w',⟨h3,hio⟩,h2,?_⟩
 unfold grown
 rw [if_neg hn]
 simp only [Sem.run_bind,h1,Result.andThen_ok,ho w' h3]
theorem z9Y (hG:Yj G) (hs:Sim G j S w) {elem:TypeId} {e:LTy} (he:G.E.ti.get elem=some e) {s s':Value} {base:Option Addr} {n' c' k:Nat} (hr:Yf j s s') (hs':s' = .slice base n' c') {new new':List Value} (hn:Yh j new new') (hk0:k=0→new=[]) {r:Value×St}
  (h0:z2a G.E e elem s new k S=some r):zO G ((do pure (Next.value (←grown w e.size e elem base n' c' k new')):Sem Next).run G.P w) r.1 j S w r.2∧(k≠0→n'+k≤1048576∧e.bytes≤4096∧e.zero.cells.size=e.size∧(n'+k≤c'∨∃ o,∀ w',w'.heap=w.heap→(Builtin.firstCells e.size n' (.slice base n' c')).run G.P w' = .ok o w')):=by
 obtain ⟨q,hq,h1⟩:=z8 h0
 obtain ⟨qa,qn,qc⟩:=q
 have hsl:=z1i hq
 dsimp only at hsl
 subst hsl
 clear h0 hq
 dsimp only at h1
 have hnl:=hn.length
 by_cases hk:k=0
 ·subst hk
  cases h1
  refine ⟨?_,fun h=>absurd rfl h⟩
  have:=hk0 rfl
  subst this
  cases hn
  subst hs'
  have hle:n'≤c':=by
   cases hr with
   | nilSlice=>exact ym _
   | slice h=>obtain ⟨_,_,_,_,h,_⟩:=h;exact h
  refine z03 hs hr ?_
  unfold grown
  rw [if_pos (by omega)]
  cases base <;> simp [storeCells]
 ·have hkb:Nat.beq k 0=false:=z0B hk
  rw [hkb] at h1
  obtain ⟨hc,h2⟩:=ze h1
  clear h1
  simp only [yw] at hc
  have c1:qn+k≤1048576:=zF hc.1
  have c2:=zF hc.2.1
  have c3:=z0w hc.2.2.1
  have c4:=hc.2.2.2.1
  have c5:=zm hc.2.2.2.2.1
  have c6:new.length=k*e.size:=zm hc.2.2.2.2.2
  clear hc
  have te:=hG.ti _ _ he
  have hnl':new'.length=k*e.size:=by rw [←hnl];exact c6
  cases qa with
  | none =>
   obtain ⟨_,h3⟩:=ze h2
   cases h3
   cases hr
   cases hs'
   refine ⟨?_,fun _=>⟨c1,c2,c5,.inr ⟨_,fun _ _=>rfl⟩⟩⟩
   obtain ⟨cap,w',⟨hw',hio⟩,hcap,hrun⟩:=z5M (P:=G.P) (w:=w) (e:=e) (elem:=elem) (size:=e.size) (new':=new') (old':=[]) (base:=none) (n:=0) (c:=0) (k:=k) (by omega) (fun _ _=>rfl)
   obtain ⟨v',w2,j',h3,h4,h5,h6⟩:=zaS (hs.heap_eq hw') hw' hio he c5 (.nil) hn (n:=0) (by simp) hnl' hcap
   refine ⟨v',w2,j',.inl ?_,by simpa using h4,by simpa using h5,by simpa using h6 _,ym _⟩
   rw [Sem.run_bind,hrun,h3];rfl
  | some a =>
   obtain ⟨cs,hcs0,h3⟩:=z8 h2
   obtain ⟨hcr,hcs⟩:=zko hcs0
   obtain ⟨hel,h4⟩:=ze h3
   clear h2 h3
   have hel:∀ i,a.spot=some i→cs.2=elem:=fun i hi=>by
    rw [hi] at hel;exact zm hel
   cases hr with
   | @slice _ a' _ _ cc hsr =>
   injection hs' with e1 e2 e3
   subst e1;subst e2;subst e3
   obtain ⟨x,hx,hb,hsp,hnc,hex,hcc,hd⟩:=hsr
   cases hble:Nat.ble (qn+k) qc with
   | true =>
    rw [show Nat.ble (Nat.add qn k) qc=true from hble] at h4
    obtain ⟨cs2,hcs2,h4⟩:=z8 h4
    obtain ⟨d,hd1,h5⟩:=z8 h4
    cases h5
    have hle:=zF hble
    have hb:=hb (by omega)
    have hsp:=hsp (by omega)
    obtain ⟨hoff,hcap⟩:=hd.resolve_left (by omega)
    obtain ⟨w',h5,h6,h7⟩:=hs.paste hx hcs2 hd1 hn c4
    have hval:Yf j (.slice (some a) (qn+k) qc) (.slice (some a') (qn+k) cc):=.slice ⟨x,hx,fun _=>hb,fun _=>hsp,by omega,hex,hcc,.inr ⟨hoff,hcap⟩⟩
    refine ⟨?_,fun _=>⟨c1,c2,c5,.inl (by omega)⟩⟩
    refine ⟨_,w',j,.inl ?_,hval,h6,h7 _ (Nat.min_le_left _ _),Nat.min_le_right _ _⟩
    unfold grown
    rw [if_pos (by omega)]
    dsimp only
    rw [z2l a' hsp,hb,hoff]
    rw [show a.off+x.delta+qn*e.size=a.off+qn*e.size+x.delta by omega]
    simp [h5]
   | false =>
    rw [show Nat.ble (Nat.add qn k) qc=false from hble] at h4
    obtain ⟨old,hold,h5⟩:=z8 h4
    cases h5
    have hnle:¬ qn+k≤qc:=fun h=>by rw [Nat.ble_eq_true_of_le h] at hble;cases hble
    have hfirst:∃ old':List Value,(∀ w',w'.heap=w.heap→(Builtin.firstCells e.size qn (.slice (some a') qn cc)).run G.P w' = .ok old'.toArray w')∧Yh j old old' :=
     z5j hs (k:=qn) (.slice (c:=qc) ⟨x,hx,hb,hsp,hnc,hex,hcc,hd⟩) rfl (ym _) (by
      show ob (rdc G.E S a.block) (fun c=>cut c.1 a.off (qn*e.size))=some old
      rw [hcr];exact hold)
    refine ⟨?_,fun _=>⟨c1,c2,c5,.inr (hfirst.elim fun o ho=>⟨_,ho.1⟩)⟩⟩
    obtain ⟨hlc,hold2⟩:=z3E hold
    have holdl:old.length=qn*e.size:=by rw [hold2];simp;omega
    by_cases hin:qn+k≤cc
    ·have hb:=hb (by omega)
     have hsp:=hsp (by omega)
     obtain ⟨hoff,hcap⟩:=hd.resolve_left (by omega)
     obtain ⟨i,hi⟩:∃ i,a.spot=some i:=by
      cases hsa:a.spot with
      | some i=>exact ⟨i,rfl⟩
      | none=>have:=hex hsa;omega
     have hcap:=hcap.resolve_left (by rw [hi];simp)
     have hcs:=hcs i hi
     have hes:=hs.esize he hx (by rw [z1J hcs,hel i hi])
     rw [z2m hi]
     obtain ⟨rc,re,hrow,hrs,hrd,_,hrel⟩:=hs.row hx hcs
     have hone:∀ v∈new',v.oneCell'=true:=by
      intro v' hv'
      obtain ⟨i,hi⟩:=List.mem_iff_getElem?.1 hv'
      have hil:i<new.length:=by have:=(List.getElem?_eq_some_iff.1 hi).1;omega
      obtain ⟨u,hu,hr⟩:=hn.get (List.getElem?_eq_getElem hil)
      rw [hi] at hu;cases hu
      rw [hr.scalar]
      exact List.all_eq_true.1 c4 _ (List.getElem_mem hil)
     have hfit:a'.off+qn*e.size+new'.length≤rc.size:=by
      rw [hnl',hrs,Nat.add_assoc,←Nat.add_mul,hes]
      exact yn (Nat.add_le_add_left (Nat.mul_le_mul_right _ hin) _) hcap
     have hst:=run_storeCells_at G.P x.blk (a'.off+qn*e.size) re new' 0 rc w hrow (by omega) hone
     obtain ⟨h6,h7⟩:=hs.turn (y:=⟨x.blk,a'.off,x.csize,x.esize⟩) (o:=.cells (old++new) elem) hx (z1I hcs) rfl (setRow_size _ _ _) (setRow_heap _ _ _ _ _ _ hrow) (fun c hc=>setRow_other _ _ _ _ hc) (by
      have hfl:a'.off+qn*e.size+0+new'.length≤rc.toList.length:=by simp;omega
      refine ⟨_,re,rfl,?_,?_,fun t ht=>by rw [he] at ht;cases ht;exact hes,?_⟩
      ·have hl:(rc.toList.take (a'.off+qn*e.size+0)++new'++rc.toList.drop (a'.off+qn*e.size+0+new'.length)).length=rc.size:=by simp;omega
       show _=x.csize
       rw [List.size_toArray,hl,hrs]
      ·show a'.off+(old++new).length≤x.csize
       rw [List.length_append,holdl,c6,←Nat.add_mul,hes]
       exact yn (Nat.add_le_add_left (Nat.mul_le_mul_right _ hin) _) hcap
      ·intro i v hiv
       refine (?_:∃ v':Value,(rc.toList.take (a'.off+qn*e.size+0)++new'++rc.toList.drop (a'.off+qn*e.size+0+new'.length)).toArray[a'.off+i]? = some v'∧Yf _ v v')
       rw [List.getElem?_toArray,z2S hfl]
       by_cases hio:i<old.length
       ·rw [List.getElem?_append_left hio,hold2,List.getElem?_take,if_pos (by omega),List.getElem?_drop] at hiv
        obtain ⟨v',h8,h9⟩:=hrel _ v hiv
        refine ⟨v',?_,h9.mono (ext_le (hs.fresh (ym _)))⟩
        rw [if_neg (by omega),Array.getElem?_toList,hoff,show a.off+x.delta+i=x.delta+(a.off+i) by omega]
        exact h8
       ·rw [List.getElem?_append_right (by omega)] at hiv
        obtain ⟨v',h8,h9⟩:=hn.get hiv
        have hlt:=(List.getElem?_eq_some_iff.1 h8).1
        refine ⟨v',?_,h9.mono (ext_le (hs.fresh (ym _)))⟩
        rw [if_pos (by omega),show a'.off+i - (a'.off+qn*e.size+0)=i - old.length by omega]
        exact h8)
     refine ⟨.slice (some a') (qn+k) cc,_,_,.inl ?_,?_,h6,h7 _ (Nat.min_le_left _ _),Nat.min_le_right _ _⟩
     ·unfold grown
      rw [if_pos hin]
      dsimp only
      rw [z2l a' hsp,hb]
      simp [hst]
     ·refine .slice ⟨_,z1O _ _ _,fun _=>hb,fun _=>hsp,hin,(fun h=>by cases h),hin,.inr ⟨?_,.inr hcap⟩⟩
      show a'.off=0+a'.off;omega
    ·obtain ⟨old',ho3,ho2⟩:=hfirst
     obtain ⟨cap,w',⟨hw',hio⟩,hcap,hrun⟩:=z5M (P:=G.P) (w:=w) (e:=e) (elem:=elem) (size:=e.size) (new':=new') (old':=old') (base:=some a') (n:=qn) (c:=cc) (k:=k) hin ho3
     have hol':old'.length=qn*e.size:=by rw [←ho2.length,holdl]
     cases hsa:a.spot with
     | none =>
      rw [z2W hsa]
      obtain ⟨v',w2,j',h3,h4,h5,h6⟩:=zaS (hs.heap_eq hw') hw' hio he c5 ho2 hn hol' hnl' hcap
      refine ⟨v',w2,j',.inl ?_,h4,h5,h6 _,ym _⟩
      rw [Sem.run_bind,hrun,h3];rfl
     | some i =>
      rw [z2m hsa]
      obtain ⟨hk1,hk2⟩:=hs.kill hx (z1I (hcs i hsa))
      obtain ⟨v',w2,j',h3,h4,h5,h6⟩:=zaS (hk1.heap_eq hw') hw' hio he c5 ho2 hn hol' hnl' hcap
      refine ⟨v',w2,j',.inl ?_,h4,h5,?_,Nat.min_le_right _ _⟩
      ·rw [Sem.run_bind,hrun,h3];rfl
      ·exact (hk2 _ (Nat.min_le_left _ _)).trans (fun b x hb=>(hs.dom b x hb).1) (h6 _) (ym _)
theorem zbG {s s':Value} {q:Option Addr×Nat×Nat} (hr:Yf j s s') (hq:z1F s=some q):∃ base n c,s' = .slice base n c∧n=q.2.1∧n≤c:=by
 obtain ⟨qa,qn,qc⟩:=q
 have hsl:=z1i hq
 dsimp only at hsl
 subst hsl
 cases hr with
 | nilSlice=>exact ⟨_,_,_,rfl,rfl,ym _⟩
 | slice h =>
  obtain ⟨_,_,_,_,h,_⟩:=h
  exact ⟨_,_,_,rfl,rfl,h⟩
theorem zjo (hG:Yj G) (hs:Sim G j S w) {ts:Array TypeId} {ty:TypeId} {args:List Value} {args':Array Value} {r:Value×St} (ha:Yh j args args'.toList) (h0:z4L G.E ts.toList args S=some r) :
  zO G ((do pure (Next.value (←Builtin.append_ ts ty args')):Sem Next).run G.P w) r.1 j S w r.2:=by
 obtain ⟨t,ht,h1⟩:=z8 h0
 obtain ⟨u,hu,h2⟩:=z8 h1
 obtain ⟨s,hs0,h3⟩:=z8 h2
 obtain ⟨x,hx,h4⟩:=z8 h3
 obtain ⟨i,hi,h5⟩:=z8 h4
 obtain ⟨ui,hui,h6⟩:=z8 h5
 obtain ⟨elem,helem,h7⟩:=z8 h6
 obtain ⟨e,he,h8⟩:=z8 h7
 clear h0 h1 h2 h3 h4 h5 h6 h7
 have ti:=hG.ti t i hi
 have tu:=hG.ti u ui hui
 have te:=hG.ti elem e he
 have hsT:G.P.underlying t=some (.slice elem):=by rw [ti.und,z1G helem]
 obtain ⟨s',hs',hrs⟩:=zjW ha hs0
 obtain ⟨x',hx',hrx⟩:=zjW ha hx
 cases hz:z8G ui.desc with
 | true =>
  rw [hz] at h8
  obtain ⟨k,hk,h9⟩:=z8 h8
  obtain ⟨hc,h10⟩:=ze h9
  clear h8 h9
  simp only [yw] at hc
  have hk1:=zF hc.1
  have hb:=zF hc.2
  obtain ⟨kk,rfl⟩:=z1H hk
  have:=hrx.int_inv;subst this
  have hq:∃ q,z1F s=some q:=by obtain ⟨q,hq,_⟩:=z8 h10;exact ⟨q,hq⟩
  obtain ⟨q,hq⟩:=hq
  obtain ⟨base,n',c',rfl,hn1,hn2⟩:=zbG hrs hq
  obtain ⟨hd,hrest⟩:=z9Y hG hs he hrs rfl (z5J j te.lit k) (fun h=>by subst h;rfl) h10
  have hrun:=zcK (w:=w) (ty:=ty) te tu hsT (zfK ht) (zfK hu) hz hs' hx' (by
   by_cases h:k=0
   ·exact .inl h
   ·exact .inr (hrest h).2.2.1) (by
   by_cases h:k=0
   ·exact .inl (by omega)
   ·exact (hrest h).2.2.2) hk1 hb (by
   by_cases h:k=0
   ·exact .inl (by omega)
   ·exact .inr (hrest h).1)
  rw [Sem.run_bind,hrun,←Sem.run_bind]
  exact hd
 | false =>
  rw [hz] at h8
  obtain ⟨hsrc,h9⟩:=ze h8
  obtain ⟨k,hk,h10⟩:=z8 h9
  obtain ⟨new,hnew,h11⟩:=z8 h10
  clear h8 h9 h10
  obtain ⟨new',hfc,hn⟩:=z5j hs hrx hk (ym _) hnew
  have hq:∃ q,z1F s=some q:=by obtain ⟨q,hq,_⟩:=z8 h11;exact ⟨q,hq⟩
  obtain ⟨q,hq⟩:=hq
  obtain ⟨base,n',c',rfl,hn1,hn2⟩:=zbG hrs hq
  have hnil:k=0→new=[]:=by
   intro h
   subst h
   unfold z0E at hnew
   split at hnew
   ·obtain ⟨_,_,h⟩:=z8 hnew
    obtain ⟨_,h⟩:=z3E h
    simpa using h
   ·obtain ⟨_,h⟩:=ze hnew;cases h;rfl
   ·cases hnew;rfl
   ·cases hnew
  have hlen:Builtin.lenOf x'=pure k:=by
   cases hrx <;> simp only [z2R] at hk <;> first | (cases hk;done) | (cases hk;rfl)
  obtain ⟨hd,hrest⟩:=z9Y hG hs he hrs rfl hn hnil h11
  have hrun:=zcL (w:=w) (ty:=ty) te tu hsT (zfK ht) (zfK hu) hsrc hs' hx' hlen hfc (by
   by_cases h:k=0
   ·exact .inl (by omega)
   ·exact (hrest h).2.2.2) (by
   by_cases h:k=0
   ·exact .inl (by omega)
   ·exact .inr ⟨(hrest h).1,(hrest h).2.1⟩)
  rw [Sem.run_bind,hrun,←Sem.run_bind]
  exact hd
theorem zo9 (hG:Yj G) (hs:Sim G j S w) {ts:Array TypeId} {ty:TypeId} {args:List Value} {args':Array Value} {r:Value×St} (ha:Yh j args args'.toList) (h0:zmj G.E ts.toList args S=some r) :
  zO G ((do pure (Next.value (←Builtin.copy_ ts ty args')):Sem Next).run G.P w) r.1 j S w r.2:=by
 obtain ⟨t,ht,h1⟩:=z8 h0
 obtain ⟨d,hd0,h2⟩:=z8 h1
 obtain ⟨x,hx,h3⟩:=z8 h2
 obtain ⟨i,hi,h4⟩:=z8 h3
 obtain ⟨elem,helem,h5⟩:=z8 h4
 obtain ⟨e,he,h6⟩:=z8 h5
 obtain ⟨q,hq,h7⟩:=z8 h6
 obtain ⟨k,hk,h8⟩:=z8 h7
 obtain ⟨cs,hcs,h9⟩:=z8 h8
 clear h0 h1 h2 h3 h4 h5 h6 h7 h8
 have ti:=hG.ti t i hi
 have te:=hG.ti elem e he
 have hsT:G.P.underlying t=some (.slice elem):=by rw [ti.und,z1G helem]
 obtain ⟨d',hd',hrd⟩:=zjW ha hd0
 obtain ⟨x',hx',hrx⟩:=zjW ha hx
 obtain ⟨new',hfc,hn⟩:=z5j hs hrx hk (Nat.min_le_left _ _) hcs
 have hlen:Builtin.lenOf x'=pure k:=by
  cases hrx <;> simp only [z2R] at hk <;> first | (cases hk;done) | (cases hk;rfl)
 obtain ⟨qa,qn,qc⟩:=q
 have hsl:=z1i hq
 dsimp only at hsl h9 hfc hcs
 subst hsl
 cases qa with
 | none =>
  obtain ⟨hz,h10⟩:=ze h9
  cases h10
  have hz:=zm hz
  subst hz
  cases hrd
  refine z03 hs (.int _ _) ?_
  rw [Nat.min_zero] at hfc
  simp only [Builtin.copy_,zfK ht,hd',hx',Sem.run_bind,run_underlying hsT,Result.andThen_ok,hlen,Sem.run_pure,te.run_size]
  rw [show Nat.min k 0=0 from Nat.min_zero k,hfc w rfl]
  rfl
 | some a =>
  obtain ⟨c,hc,h10⟩:=z8 h9
  obtain ⟨hsc,h11⟩:=ze h10
  obtain ⟨c',hc',h12⟩:=z8 h11
  cases h12
  cases hrd with
  | @slice _ a' _ _ cc hsr =>
   obtain ⟨y,hy,hb,hsp,hnc,hex,hcc,hdd⟩:=hsr
   have hrun:∀ (w':World),(storeCells a' new').run G.P w = .ok () w'→(Builtin.copy_ ts ty args').run G.P w = .ok (.int .i64 (Nat.min k qn:Nat)) w':=by
    intro w' h
    simp only [Builtin.copy_,zfK ht,hd',hx',Sem.run_bind,run_underlying hsT,Result.andThen_ok,hlen,Sem.run_pure,te.run_size]
    rw [hfc w rfl]
    simp only [Result.andThen_ok,List.toList_toArray,Sem.run_bind,h,Sem.run_pure]
    rfl
   by_cases hoff:cc=0
   ·have hq0:qn=0:=by omega
    subst hq0
    have hcs0:cs=[]:=by
     rw [show Nat.min k 0=0 from Nat.min_zero k] at hcs
     unfold z0E at hcs
     split at hcs
     ·obtain ⟨_,_,h⟩:=z8 hcs
      obtain ⟨_,h⟩:=z3E h
      simpa using h
     ·obtain ⟨_,h⟩:=ze hcs;cases h;rfl
     ·cases hcs;rfl
     ·cases hcs
    subst hcs0
    cases hn
    obtain ⟨hl,rfl⟩:=z4s hc'
    have hrow:=hs.row hy hc
    obtain ⟨rc,re,h13,h14,h15,h16,h17⟩:=hrow
    obtain ⟨h18,h19⟩:=hs.put hy (z1I hc) rfl h13 (fun _ _=>rfl) (o:=.cells (c.1.take a.off++[]++c.1.drop (a.off+([]:List Value).length)) c.2) ⟨rc,re,rfl,h14,by simpa using h15,h16,by simpa using h17⟩
    exact ⟨_,w,j,.inl (by rw [Sem.run_bind,hrun w rfl];rfl),.int _ _,h18,h19 _ (Nat.min_le_left _ _),Nat.min_le_right _ _⟩
   ·have hb:=hb hoff
    have hsp:=hsp hoff
    obtain ⟨hoff,_⟩:=hdd.resolve_left hoff
    have hat:a'=⟨y.blk,a.off+y.delta,none⟩:=by cases a';simp_all
    obtain ⟨w',h13,h14,h15⟩:=hs.paste hy hc hc' hn hsc
    rw [←hat] at h13
    exact ⟨_,w',j,.inl (by rw [Sem.run_bind,hrun w' h13];rfl),.int _ _,h14,h15 _ (Nat.min_le_left _ _),Nat.min_le_right _ _⟩
theorem zjC {z:List Value} (h:z.all scalar=true) (n:Nat):(zeros z n).all scalar=true:=by
 induction n with
 | zero=>rfl
 | succ n ih=>rw [zfD,List.all_append,h,ih];rfl
theorem zlp (hG:Yj G) (hs:Sim G j S w) {ts:Array TypeId} {ty:TypeId} {args:List Value} {args':Array Value} {r:Value×St} (ha:Yh j args args'.toList) (h0:zjt G.E ts.toList args S=some r) :
  zO G ((do pure (Next.value (←Builtin.clear_ ts ty args')):Sem Next).run G.P w) r.1 j S w r.2:=by
 obtain ⟨t,ht,h1⟩:=z8 h0
 obtain ⟨x,hx,h2⟩:=z8 h1
 obtain ⟨i,hi,h3⟩:=z8 h2
 obtain ⟨elem,helem,h4⟩:=z8 h3
 obtain ⟨q,hq,h5⟩:=z8 h4
 clear h0 h1 h2 h3 h4
 have ti:=hG.ti t i hi
 have hsT:G.P.underlying t=some (.slice elem):=by rw [ti.und,z1G helem]
 have ht:=z8Q rfl ht
 obtain ⟨x',hx',hrel⟩:=zcY ha hx
 obtain ⟨qa,qn,qc⟩:=q
 have hsl:=z1i hq
 dsimp only at hsl h5
 subst hsl
 by_cases hz:qn=0
 ·subst hz
  cases h5
  refine z03 hs (.tuple .nil) ?_
  simp only [Builtin.clear_,ht,hx',Sem.run_bind,run_underlying hsT,Result.andThen_ok]
  cases hrel <;> rfl
 ·rw [z0B hz] at h5
  obtain ⟨e,he,h6⟩:=z8 h5
  obtain ⟨a,hqa,h7⟩:=z8 h6
  obtain ⟨c,hc,h8⟩:=z8 h7
  obtain ⟨hsc,h9⟩:=ze h8
  obtain ⟨c',hc',h10⟩:=z8 h9
  clear h5 h6 h7 h8 h9
  cases h10
  subst hqa
  have te:=hG.ti _ _ he
  cases hrel with
  | @slice _ a' _ _ cc hsr =>
   obtain ⟨y,hy,hb,hsp,hnc,hex,hcc,hdd⟩:=hsr
   have hb:=hb (by omega)
   have hsp:=hsp (by omega)
   obtain ⟨hoff,_⟩:=hdd.resolve_left (by omega)
   have hat:a'=⟨y.blk,a.off+y.delta,none⟩:=by cases a';simp_all
   have hall:=zjC hsc qn
   obtain ⟨w',h13,h14,h15⟩:=hs.paste hy hc hc' (z5J j te.lit qn) hall
   rw [←hat] at h13
   refine ⟨_,w',j,.inl ?_,.tuple .nil,h14,h15 _ (Nat.min_le_left _ _),Nat.min_le_right _ _⟩
   simp only [Builtin.clear_,ht,hx',Sem.run_bind,run_underlying hsT,Result.andThen_ok]
   obtain ⟨m,rfl⟩:∃ m,qn=m+1:=⟨qn - 1,by omega⟩
   simp only [Sem.run_bind,te.run_zero,Result.andThen_ok,z3s,h13,Sem.run_pure]
end
end
end Go.Proofs.YtdpipdniklognaaGreat
