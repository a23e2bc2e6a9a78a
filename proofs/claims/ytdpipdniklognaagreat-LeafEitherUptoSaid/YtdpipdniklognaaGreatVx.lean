/- The program's LeafEither returns true for all numbers that describe a book, all turns and all lists of holes, without an exception and without changing its arguments: a part of the proof. -/
import Derived.Test.YtdpipdniklognaaGreatVp
import Derived.Test.YtdpipdniklognaaGreatVd
import Derived.WalkKit
import Derived.Test.YtdpipdniklognaaGreatVe
set_option linter.all false
/- The table of this program's types. -/
set_option maxRecDepth 100000
namespace Go.Proofs.YtdpipdniklognaaGreat
noncomputable def tb:Tab:=[
 (3,⟨1,false,.int .i64,[.int .i64 (0)]⟩),
 (25,⟨2,true,.struct false [(0,1,false),(1,1,false)],[.lst 0 true 0 fun _=>[],.lst 0 true 0 fun _=>[]]⟩),
 (74,⟨6,true,.struct true [(0,1,false),(1,1,false),(2,1,false),(3,1,false),(4,1,false),(5,1,false)],[.int .i64 (0),.int .i64 (0),.int .i64 (0),.int .i64 (0),.int .i64 (0),.int .i64 (0)]⟩),
 (58,⟨2,true,.struct true [(0,1,false),(1,1,false)],[.int .i64 (0),.int .i64 (0)]⟩),
 (37,⟨1,false,.slice 3 1,[.lst 0 true 0 fun _=>[]]⟩),
 (22,⟨1,false,.slice 74 6,[.lst 0 true 0 fun _=>[]]⟩),
 (23,⟨1,false,.slice 58 2,[.lst 0 true 0 fun _=>[]]⟩),
 (28,⟨1,false,.int .i64,[.int .i64 (0)]⟩),
 (32,⟨2,true,.struct true [(0,1,false),(1,1,false)],[.int .i64 (0),.int .i64 (0)]⟩),
 (113,⟨1,false,.int .i64,[.int .i64 (0)]⟩),
 (66,⟨3,true,.arr 3 1 false,[.int .i64 (0),.int .i64 (0),.int .i64 (0)]⟩),
 (27,⟨5,true,.struct true [(0,1,false),(1,1,false),(2,1,false),(3,1,false),(4,1,false)],[.int .i64 (0),.int .i64 (0),.int .i64 (0),.int .i64 (0),.int .i64 (0)]⟩),
 (86,⟨1,false,.slice 37 1,[.lst 0 true 0 fun _=>[]]⟩),
 (51,⟨4,true,.struct false [(0,1,false),(1,1,false),(2,1,false),(3,1,false)],[.lst 0 true 0 fun _=>[],.lst 0 true 0 fun _=>[],.lst 0 true 0 fun _=>[],.lst 0 true 0 fun _=>[]]⟩),
 (185,⟨1,false,.int .u64,[.int .u64 (0)]⟩),
 (106,⟨1,false,.func,[.nilf]⟩),
 (159,⟨2,true,.struct false [(0,1,false),(1,1,false)],[.lst 0 true 0 fun _=>[],.int .i64 (0)]⟩),
 (4,⟨1,false,.bool,[.bool false]⟩),
 (52,⟨2,true,.arr 2 1 false,[.int .i64 (0),.int .i64 (0)]⟩),
 (149,⟨1,false,.int .u64,[.int .u64 (0)]⟩),
 (189,⟨1,false,.ptr,[.nilp]⟩),
 (108,⟨1,false,.mapA (.bool false),[.nilm]⟩),
 (116,⟨1,false,.slice 159 2,[.lst 0 true 0 fun _=>[]]⟩),
 (82,⟨1,false,.map,[.nilm]⟩),
 (49,⟨1,false,.slice 52 2,[.lst 0 true 0 fun _=>[]]⟩),
 (179,⟨1,false,.int .u64,[.int .u64 (0)]⟩),
 (177,⟨1,false,.int .u32,[.int .u32 (0)]⟩),
 (48,⟨1,false,.slice 66 3,[.lst 0 true 0 fun _=>[]]⟩),
 (5,⟨1,false,.int .u8,[.int .u8 (0)]⟩),
 (42,⟨1,false,.func,[.nilf]⟩),
 (119,⟨1,false,.func,[.nilf]⟩),
 (121,⟨1,false,.mapI,[.nilm]⟩),
 (125,⟨1,false,.func,[.nilf]⟩),
 (141,⟨1,false,.func,[.nilf]⟩),
 (146,⟨1,false,.func,[.nilf]⟩),
 (169,⟨1,false,.int .i64,[.int .i64 (0)]⟩),
 (157,⟨1,false,.slice 4 1,[.lst 0 true 0 fun _=>[]]⟩),
 (9,⟨1,false,.str,[.str ⟨#[]⟩]⟩),
 (155,⟨1,false,.func,[.nilf]⟩),
 (162,⟨1,false,.func,[.nilf]⟩)]
theorem za {r:Rm}:zH (sE r) tb=true:=by kernel_rfl
end Go.Proofs.YtdpipdniklognaaGreat
/- Loose sheets by value; what the walks of this layer use. -/
set_option maxRecDepth 100000
namespace Go.Proofs.YtdpipdniklognaaGreat
def wth (n lo hi:Int):Bool:=decide (lo≤n)&&decide (n≤hi)
theorem wth_iff {n lo hi:Int}:wth n lo hi=true ↔ lo≤n∧n≤hi:=by
 unfold wth;rw [Bool.and_eq_true,decide_eq_true_iff,decide_eq_true_iff]
theorem z0f {α : Type} {l:List α} {k:Nat} {d : α} (h:k<l.length):l.getD k d=l[k]:=by
 rw [List.getD_eq_getElem?_getD,List.getElem?_eq_getElem h];rfl
theorem z0E {α : Type} {l:List α} {k:Nat} {d : α} (h:k<l.length):l.getD k d∈l:=by
 rw [z0f h];exact List.getElem_mem h
theorem z2L {α : Type} {l:List α} {x d : α} (h:x∈l):∃ k,k<l.length∧l.getD k d=x:=by
 obtain ⟨k,hk,e⟩:=List.mem_iff_getElem.1 h
 exact ⟨k,hk,by rw [z0f hk];exact e⟩
def zoN (p:Nat→Bool) (n:Nat):Bool:=(List.range n).all p
theorem allB_iff {p:Nat→Bool} {n:Nat}:zoN p n=true ↔ ∀ k,k<n→p k=true:=by
 unfold zoN;rw [List.all_eq_true]
 exact ⟨fun h k hk=>h k (List.mem_range.2 hk),fun h k hk=>h k (List.mem_range.1 hk)⟩
theorem zf1 {p:Nat→Bool} {n k:Nat} (hk:k<n) (h:p k=false):zoN p n=false:=by
 rw [←Bool.not_eq_true]
 intro h1
 rw [allB_iff.1 h1 k hk] at h;cases h
def z8q {α : Type} (l:List α) (p : α → Bool):Int:=match l.findIdx? p with
 | some k=>k
 | none=> -1
section
variable {α : Type} [Inhabited α]
theorem znl {l:List α} {k:Nat} (h:k<l.length):l.getD k default=l[k]:=by
 rw [List.getD_eq_getElem?_getD,List.getElem?_eq_getElem h];rfl
theorem zan {l:List α} {k:Nat} {p : α → Bool} (hk:k<l.length) (h:p (l.getD k default)=true) (hb:∀ i,i<k→p (l.getD i default)=false):z8q l p=k:=by
 unfold z8q
 have:l.findIdx? p=some k:=by
  rw [List.findIdx?_eq_some_iff_getElem]
  refine ⟨hk,by rw [znl hk] at h;exact h,fun j hj=>?_⟩
  have:=hb j hj
  rw [znl (by omega)] at this
  simp [this]
 rw [this]
theorem z8p {l:List α} {p : α → Bool} (hb:∀ i,i<l.length→p (l.getD i default)=false):z8q l p = -1:=by
 unfold z8q
 have:l.findIdx? p=none:=by
  rw [List.findIdx?_eq_none_iff]
  intro x hx
  obtain ⟨k,hk,rfl⟩:=List.mem_iff_getElem.1 hx
  have:=hb k hk
  rwa [znl hk] at this
 rw [this]
theorem z6t {l:List α} {p : α → Bool} {k:Nat} (h:z8q l p=Int.ofNat k):k<l.length∧p (l.getD k default)=true∧∀ i,i<k→p (l.getD i default)=false:=by
 unfold z8q at h
 cases hf:l.findIdx? p with
 | none=>rw [hf] at h;exact absurd h (by intro h;cases h)
 | some i =>
  rw [hf] at h
  have:i=k:=Int.ofNat_inj.1 h
  subst this
  rw [List.findIdx?_eq_some_iff_getElem] at hf
  obtain ⟨h1,h2,h3⟩:=hf
  refine ⟨h1,by rw [znl h1];exact h2,fun j hj=>?_⟩
  rw [znl (by omega)]
  simpa using h3 j hj
omit [Inhabited α] in
theorem zam {l:List α} {p : α → Bool} (h:z8q l p = -1):l.filter (fun x=>!p x)=l:=by
 unfold z8q at h
 cases hf:l.findIdx? p with
 | some i=>rw [hf] at h;exact absurd h (by intro h;cases h)
 | none =>
  rw [List.findIdx?_eq_none_iff] at hf
  exact List.filter_eq_self.2 fun x hx=>by rw [hf x hx];rfl
omit [Inhabited α] in
theorem z6u (l:List α) (p : α → Bool):z8q l p = -1∨∃ k,z8q l p=Int.ofNat k:=by
 unfold z8q
 split
 ·exact .inr ⟨_,rfl⟩
 ·exact .inl rfl
theorem z6f (l:List α) {k:Nat} (h:k<l.length):l.take (k+1)=l.take k++[l.getD k default]:=by
 rw [List.take_add_one,znl h,List.getElem?_eq_getElem h];rfl
theorem z3k (l:List α) (q : α → Bool) {k:Nat} (h:k<l.length):(l.take (k+1)).filter q=bif q (l.getD k default) then (l.take k).filter q++[l.getD k default] else (l.take k).filter q:=by
 rw [z6f l h,List.filter_append]
 cases hq:q (l.getD k default) with
 | true=>rw [List.filter_cons_of_pos hq];rfl
 | false=>rw [List.filter_cons_of_neg (by rw [hq];decide)];simp
theorem z99 {l:List α} {p : α → Bool}:∀ {k:Nat},k≤l.length→(∀ i,i<k→p (l.getD i default)=false)→(l.take k).filter (fun x=>!p x)=l.take k
 | 0,_,_=>rfl
 | k+1,h,hp=>by
  rw [z3k l _ (by omega),z99 (by omega) (fun i hi=>hp i (by omega)),hp k (by omega),z6f l (by omega)];rfl
structure DelInv (l:List α) (p : α → Bool) (j i:Nat) (g:Nat→α):Prop where
 le:j≤l.length
 lt:i<j
 len:i=((l.take j).filter (fun x=>!p x)).length
 done:∀ q,q<i→g q=((l.take j).filter (fun x=>!p x)).getD q default
 rest:∀ q,j≤q→g q=l.getD q default
theorem DelInv.start {l:List α} {p : α → Bool} {k0:Nat} (h:k0<l.length∧p (l.getD k0 default)=true∧∀ i,i<k0→p (l.getD i default)=false):DelInv l p (k0+1) k0 (fun q=>l.getD q default):=by
 have e1:(l.take (k0+1)).filter (fun x=>!p x)=l.take k0:=by
  rw [z3k l _ h.1,h.2.1,z99 (by omega) h.2.2];rfl
 refine ⟨h.1,Nat.lt_succ_self _,?_,fun q hq=>?_,fun q _=>rfl⟩
 ·rw [e1,List.length_take];omega
 ·rw [e1]
  simp only [List.getD_eq_getElem?_getD]
  rw [List.getElem?_take,if_pos hq]
theorem DelInv.skip {l:List α} {p : α → Bool} {j i:Nat} {g:Nat→α} (h:DelInv l p j i g) (hj:j<l.length) (hp:p (l.getD j default)=true):DelInv l p (j+1) i g:=by
 have e1:(l.take (j+1)).filter (fun x=>!p x)=(l.take j).filter (fun x=>!p x):=by
  rw [z3k l _ hj,hp];rfl
 exact ⟨hj,Nat.lt_succ_of_lt h.lt,by rw [e1];exact h.len,fun q hq=>by rw [e1];exact h.done q hq,fun q h1=>h.rest q (by omega)⟩
theorem DelInv.keep {l:List α} {p : α → Bool} {j i:Nat} {g:Nat→α} (h:DelInv l p j i g) (hj:j<l.length) (hp:p (l.getD j default)=false):DelInv l p (j+1) (i+1) (fun q=>if q=i then g j else g q):=by
 have e1:(l.take (j+1)).filter (fun x=>!p x)=(l.take j).filter (fun x=>!p x)++[l.getD j default]:=by
  rw [z3k l _ hj,hp];rfl
 have hij:=h.lt
 refine ⟨hj,by omega,by rw [e1,List.length_append,←h.len];rfl,fun q hq=>?_,fun q h1=>?_⟩
 ·rw [e1]
  simp only [List.getD_eq_getElem?_getD]
  by_cases c:q=i
  ·subst c
   rw [if_pos rfl,List.getElem?_append_right (by rw [←h.len];exact Nat.le_refl _),←h.len,Nat.sub_self,h.rest j (Nat.le_refl _)];rfl
  ·rw [if_neg c,List.getElem?_append_left (by rw [←h.len];omega),h.done q (by omega),List.getD_eq_getElem?_getD]
 ·show (if q=i then _ else _)=_
  rw [if_neg (by omega),h.rest q (by omega)]
theorem DelInv.all {l:List α} {p : α → Bool} {i:Nat} {g:Nat→α} (h:DelInv l p l.length i g):i=(l.filter (fun x=>!p x)).length∧∀ q,q<i→g q=(l.filter (fun x=>!p x)).getD q default:=by
 have h1:=h.len
 have h2:=h.done
 rw [List.take_length] at h1 h2
 exact ⟨h1,h2⟩
end
theorem nlt {k n:Nat} (h:decide (Int.ofNat k<Int.ofNat n)=true):k<n:=by
 have:=of_decide_eq_true h;simp only [Int.ofNat_eq_natCast] at this;omega
theorem nge {k n:Nat} (h:decide (Int.ofNat k<Int.ofNat n)=false):n≤k:=by
 have:=of_decide_eq_false h;simp only [Int.ofNat_eq_natCast] at this;omega
theorem n0 {k:Nat} (h:decide ((0:Int)<Int.ofNat k)=true):0<k:=by
 have:=of_decide_eq_true h;simp only [Int.ofNat_eq_natCast] at this;omega
theorem n0' {k:Nat} (h:decide ((0:Int)<Int.ofNat k)=false):k=0:=by
 have:=of_decide_eq_false h;simp only [Int.ofNat_eq_natCast] at this;omega
theorem nt {b:Bool} (h:(!b)=true):b=false:=by cases b <;> first | rfl | cases h
theorem nf {b:Bool} (h:(!b)=false):b=true:=by cases b <;> first | rfl | cases h
theorem zcU {k:Nat} (h:0<k):AImp (iv (Int.ofNat k - 1)) (nv (k - 1)):=z2d (by simp only [Int.ofNat_eq_natCast];omega)
theorem z0H {p:Nat→Prop} {k:Nat} (h:∀ i,i<k→p i) (hk:p k):∀ i,i<k+1→p i:=fun i hi=>by
 by_cases e:i=k
 ·subst e;exact hk
 ·exact h i (by omega)
theorem none0 {p:Nat→Prop}:∀ i,i<0→p i:=fun i hi=>absurd hi (Nat.not_lt_zero i)
structure Sht where
 id:Int
 paper:Int
 first:Int
 catch_:Int
 holes:Int
 unsure:Int
structure Sew where
 fro:Int
 too:Int
instance:Inhabited Sht:=⟨⟨0,0,0,0,0,0⟩⟩
instance:Inhabited Sew:=⟨⟨0,0⟩⟩
def zo (l:List Sht) (k:Nat):Sht:=l.getD k default
def zP (l:List Sew) (k:Nat):Sew:=l.getD k default
def zW (s:Sht):List PV:=[.int .i64 s.id,.int .i64 s.paper,.int .i64 s.first,.int .i64 s.catch_,.int .i64 s.holes,.int .i64 s.unsure]
def zj3 (x:Sew):List PV:=[.int .i64 x.fro,.int .i64 x.too]
def fS (l:List Sht):Nat→List PV:=fun k=>zW (zo l k)
def fW (l:List Sew):Nat→List PV:=fun k=>zj3 (zP l k)
def z0G (b:Bool) (l:List Sht):PV:=.lst 74 b l.length (fS l)
def z3J (b:Bool) (l:List Sew):PV:=.lst 58 b l.length (fW l)
def z2F (b:Bool) (l:List Int):PV:=.lst 3 b l.length fun k=>[.int .i64 (l.getD k 0)]
structure Hp where
 st:List Sht
 stB:Bool
 sw:List Sew
 swB:Bool
def eHp (h:Hp):List PV:=[z0G h.stB h.st,z3J h.swB h.sw]
theorem zfO {a b:Nat} (h:a<b):Nat.blt a b=true:=by simpa using h
theorem ziA {a b:Nat} (h:¬ a<b):Nat.blt a b=false:=by rw [←Bool.not_eq_true];simpa using h
variable {r:Rm}
theorem PureA.conv {E:Env} {F:VK} {L:VS} {src dst:TypeId} {x:Operand} {ka kc:IntKind} {a c:Int} (hx:av F x=some (.p (.int ka a))) (h:(ob (E.ti.get src) fun _=>ob (E.ti.get dst) fun i=>z8G i.desc (.int ka a))=some (.int kc c)):PureA E F L (.convert src dst x) (.p (.int kc c)):=fun T S Z j h2 h3=>by
 obtain ⟨v,h4,h5⟩:=h3.ev hx
 cases h5 with
 | p h5 =>
  cases h5
  refine ⟨.int kc c,fun cF dF=>?_,.p (.int _ _)⟩
  show ob (ob (E.ti.get src) fun _=>ob (T.ev x) fun a=>ob (E.ti.get dst) fun i=>z8G i.desc a) (fun v=>some (v,S))=_
  rw [h4]
  show ob (ob (E.ti.get src) fun _=>ob (E.ti.get dst) fun i=>z8G i.desc (.int ka a)) (fun v=>some (v,S))=_
  rw [h];rfl
theorem PureA.bin {E:Env} {F:VK} {L:VS} {op:BinOp} {t kd:TypeId} {x y:Operand} {ka kb kc:IntKind} {a b c:Int} (hx:av F x=some (.p (.int ka a))) (hy:av F y=some (.p (.int kb b))) (h:y7 E op t (.int ka a) (.int kb b)=some (.int kc c)):PureA E F L (.binOp op t x y kd) (.p (.int kc c)):=fun T S Z j h2 h3=>by
 obtain ⟨v,h4,h5⟩:=h3.ev hx
 obtain ⟨w,h6,h7⟩:=h3.ev hy
 cases h5 with
 | p h5 =>
  cases h5
  cases h7 with
  | p h7 =>
   cases h7
   refine ⟨.int kc c,fun cF dF=>?_,.p (.int _ _)⟩
   show ob (ob (T.ev x) fun a=>ob (T.ev y) fun b=>y7 E op t a b) (fun v=>some (v,S))=_
   rw [h4,h6]
   show ob (y7 E op t (.int ka a) (.int kb b)) (fun v=>some (v,S))=_
   rw [h];rfl
theorem VP.to {E:Env} {f:FuncId} {args:List AV} {a b:AV} (h:VP E f args a) (hi:AImp a b) (ho:b.only (fun _=>false)=true):VP E f args b:=⟨ho,fun S Z j vs h1 h2 h3=>by
 obtain ⟨n,v,S',k1,a',L',Z',j',k2,k3,k4,k5,k6,rfl,rfl⟩:=h.2 S Z j vs h1 h2 h3
 exact ⟨n,v,S',k1,b,[],Z',j',k2,hi _ _ _ _ _ k3,k4,k5,k6,rfl,rfl⟩⟩
theorem zdl {n:Int} (h:0≤n):∃ m:Nat,n=Int.ofNat m:=⟨n.toNat,(Int.toNat_of_nonneg h).symm⟩
theorem wrap_u64 {n:Nat} (h:n<9223372036854775808):IntKind.u64.wrap (Int.ofNat n)=Int.ofNat n:=by
 simp only [IntKind.wrap,IntKind.bits,IntKind.signed,Bool.false_and,Int.ofNat_eq_natCast]
 rw [if_neg (by decide)]
 omega
theorem wrap_i64 {n:Nat} (h:n<9223372036854775808):IntKind.i64.wrap (Int.ofNat n)=Int.ofNat n:=wrap64 (by simp only [Int.ofNat_eq_natCast];omega) (by simp only [Int.ofNat_eq_natCast];omega)
theorem zny {i j:Nat} (h:i+j<9223372036854775808):(ob ((sE r).ti.get 3) fun _=>ob ((sE r).ti.get 149) fun d=>z8G d.desc (.int .i64 (Int.ofNat i+Int.ofNat j)))=some (.int .u64 (Int.ofNat (i+j))):=by
 show some (Value.int .u64 (IntKind.u64.wrap (Int.ofNat (i+j))))=_
 rw [wrap_u64 h]
theorem znz {n:Nat} (h:n<9223372036854775808):(ob ((sE r).ti.get 149) fun _=>ob ((sE r).ti.get 3) fun d=>z8G d.desc (.int .u64 (Int.ofNat n)))=some (.int .i64 (Int.ofNat n)):=by
 show some (Value.int .i64 (IntKind.i64.wrap (Int.ofNat n)))=_
 rw [wrap_i64 h]
theorem zk4 {E:Env} {t:TypeId} {n:Nat}:y7 E .shr t (.int .u64 (Int.ofNat n)) (.int .u64 1)=some (.int .u64 (Int.ofNat (n / 2))):=by
 show some (Value.int .u64 ((Int.ofNat n).fdiv 2))=_
 rw [Int.ofNat_eq_natCast,Int.fdiv_eq_ediv_of_nonneg _ (by decide)]
 rfl
end Go.Proofs.YtdpipdniklognaaGreat
/- Walks: whether a sheet is valid, the program's and the reference's. -/
set_option maxRecDepth 100000
namespace Go.Proofs.YtdpipdniklognaaGreat
variable {r:Rm}
theorem zhL (n lo hi:Int):VP (sE r) 102 [iv n,iv lo,iv hi] (bv (wth n lo hi)):=by
 refine VP.of (fn:=Tryz.f102) za (zC rfl) (by kernel_rfl) rfl rfl rfl ?_
 refine VSt.go za false [] 200 rfl AllP.n ?_
 refine zg 10 rfl (fun h=>?_) (fun h=>?_)
 ·refine VSt.go za false [] 200 rfl AllP.n ?_
  refine EndsP.mk rfl rfl rfl ?_
  show bv _=bv _
  unfold wth;rw [show decide (lo≤n)=true from h];rfl
 ·refine VSt.go za false [] 200 rfl AllP.n ?_
  refine EndsP.mk rfl rfl rfl ?_
  show bv _=bv _
  unfold wth;rw [show decide (lo≤n)=false from h];rfl
theorem z9o (n:Int):VP (sE r) 115 [iv n] (bv (wth n 1 999)):=by
 refine VP.of (fn:=Tryz.f115) za (zC rfl) (by kernel_rfl) rfl rfl rfl ?_
 refine VSt.go za false [] 200 rfl AllP.n ?_
 refine VSt.pc rfl rfl rfl rfl rfl rfl rfl rfl ((zhL n 1 999)) ?_
 refine VSt.go za false [] 200 rfl AllP.n ?_
 exact EndsP.mk rfl rfl rfl rfl
theorem zhF (n:Int):VP (sE r) 94 [iv n] (bv (wth n 0 11)):=by
 refine VP.of (fn:=Tryz.f94) za (zC rfl) (by kernel_rfl) rfl rfl rfl ?_
 refine VSt.go za false [] 200 rfl AllP.n ?_
 refine VSt.pc rfl rfl rfl rfl rfl rfl rfl rfl ((zhL n 0 11)) ?_
 refine VSt.go za false [] 200 rfl AllP.n ?_
 exact EndsP.mk rfl rfl rfl rfl
theorem zj5 {a b:Nat}:a ^^^ b=0 ↔ a=b:=by
 refine ⟨fun h=>Nat.eq_of_testBit_eq fun i=>?_,fun h=>by rw [h,Nat.xor_self]⟩
 have:=congrArg (fun n=>n.testBit i) h
 simp only [Nat.testBit_xor,Nat.zero_testBit] at this
 cases h1:a.testBit i <;> cases h2:b.testBit i <;> rw [h1,h2] at this <;> first | rfl | cases this
theorem zfR (m:Nat):((Int.ofNat (m ^^^ (m &&& 4095))==0):Bool)=decide (m≤4095):=by
 have h1:m &&& 4095=m % 4096:=Nat.and_two_pow_sub_one_eq_mod m 12
 rw [h1,Bool.eq_iff_iff,beq_iff_eq,decide_eq_true_iff]
 have h2:m ^^^ (m % 4096)=0 ↔ m=m % 4096:=zj5
 rw [show (Int.ofNat (m ^^^ (m % 4096))=0) ↔ m ^^^ (m % 4096)=0 from by simp only [Int.ofNat_eq_natCast];omega,h2]
 omega
theorem zg6 {m:Nat} (hm:m<9223372036854775808):VP (sE r) 149 [iv (Int.ofNat m),iv 4095] (bv (decide (m≤4095))):=by
 refine VP.of (fn:=Tryz.f149) za (zC rfl) (by kernel_rfl) rfl rfl rfl ?_
 refine VSt.go za false [] 200 rfl ((AllP.c hm (AllP.c (by decide) AllP.n))) ?_
 refine EndsP.mk rfl rfl rfl ?_
 show bv _=bv _
 rw [←zfR]
theorem z9n {n:Int} (hn:inR n):VP (sE r) 116 [iv n] (bv (wth n 0 4095)):=by
 by_cases h0:0≤n
 ·obtain ⟨m,rfl⟩:=zdl h0
  have hm:m<9223372036854775808:=by have:=hn.2;simp only [Int.ofNat_eq_natCast] at this;omega
  refine VP.of (fn:=Tryz.f116) za (zC rfl) (by kernel_rfl) rfl rfl rfl ?_
  refine VSt.go za false [] 200 rfl AllP.n ?_
  refine zg 5 rfl (fun h=>?_) (fun h=>?_)
  rotate_left
  ·exact absurd (show decide (0≤Int.ofNat m)=false from h) (by rw [decide_eq_true h0];decide)
  refine VSt.go za false [] 200 rfl AllP.n ?_
  refine VSt.pc rfl rfl rfl rfl rfl rfl rfl rfl ((zg6 hm)) ?_
  refine VSt.go za false [] 200 rfl AllP.n ?_
  refine EndsP.mk rfl rfl rfl ?_
  show bv _=bv _
  unfold wth
  rw [decide_eq_true h0,Bool.true_and]
  congr 2
  exact propext ⟨fun h=>by simp only [Int.ofNat_eq_natCast];omega,fun h=>by simp only [Int.ofNat_eq_natCast] at h;omega⟩
 ·refine VP.of (fn:=Tryz.f116) za (zC rfl) (by kernel_rfl) rfl rfl rfl ?_
  refine VSt.go za false [] 200 rfl AllP.n ?_
  refine zg 5 rfl (fun h=>?_) (fun h=>?_)
  ·exact absurd (of_decide_eq_true (show decide (0≤n)=true from h)) h0
  refine VSt.go za false [] 200 rfl AllP.n ?_
  refine EndsP.mk rfl rfl rfl ?_
  show bv _=bv _
  unfold wth
  rw [decide_eq_false h0];rfl
def zo0 (a b:Int):Bool:=!(Int.ofNat (a.toNat &&& b.toNat)==0)
theorem zjQ {m k:Nat} (hm:m<9223372036854775808) (hk:k<9223372036854775808):VP (sE r) 117 [iv (Int.ofNat m),iv (Int.ofNat k)] (bv (zo0 (Int.ofNat m) (Int.ofNat k))):=by
 refine VP.of (fn:=Tryz.f117) za (zC rfl) (by kernel_rfl) rfl rfl rfl ?_
 refine VSt.go za false [] 200 rfl (AllP.c ‹_› (AllP.c ‹_› AllP.n)) ?_
 exact EndsP.mk rfl rfl rfl rfl
structure OkS (s:Sht):Prop where
 id:wth s.id 1 99=true
 paper:wth s.paper 1 999=true
 first:wth s.first 0 999=true
 catch_:wth s.catch_ 0 999=true
 holes:wth s.holes 0 4095=true
 unsure:wth s.unsure 0 4095=true
 apart:zo0 s.holes s.unsure=false
open Classical in
noncomputable def ckS (s:Sht):Int:=if OkS s then 0 else 50
theorem z5f {s:Sht} (h:¬ OkS s):ckS s=50:=if_neg h
theorem zki {s:Sht} (h:OkS s):ckS s=0:=if_pos h
theorem zoi (s:Sht):(OkS s∧ckS s=0)∨(¬ OkS s∧ckS s=50):=by
 unfold ckS
 by_cases h:OkS s
 ·exact .inl ⟨h,if_pos h⟩
 ·exact .inr ⟨h,if_neg h⟩
structure SzS (s:Sht):Prop where
 holes:inR s.holes
 unsure:inR s.unsure
theorem OkS.sz {s:Sht} (h:OkS s):SzS s:=by
 have h1:=wth_iff.1 h.holes
 have h2:=wth_iff.1 h.unsure
 exact ⟨⟨by omega,by omega⟩,⟨by omega,by omega⟩⟩
set_option maxHeartbeats 4000000 in
theorem zoj {s:Sht} (hz:SzS s):VP (sE r) 59 [.agg ((zW s).map .p)] (iv (ckS s)):=by
 refine VP.of (fn:=Tryz.f59) za (zC rfl) (by kernel_rfl) rfl rfl rfl ?_
 refine VSt.go za false [] 200 rfl AllP.n ?_
 refine VSt.pc rfl rfl rfl rfl rfl rfl rfl rfl ((zhL s.id 1 99)) ?_
 refine VSt.go za false [] 200 rfl AllP.n ?_
 refine zg 7 rfl (fun a1=>?_) (fun a1=>?_)
 ·refine VSt.go za false [] 200 rfl AllP.n ?_
  refine EndsP.mk rfl rfl rfl ?_
  rw [z5f fun h=>by have:=h.id;rw [nt a1] at this;cases this];rfl
 refine VSt.go za false [] 200 rfl AllP.n ?_
 refine VSt.pc rfl rfl rfl rfl rfl rfl rfl rfl ((z9o s.paper)) ?_
 refine VSt.go za false [] 200 rfl AllP.n ?_
 refine zg 13 rfl (fun a2=>?_) (fun a2=>?_)
 ·refine VSt.go za false [] 200 rfl AllP.n ?_
  refine EndsP.mk rfl rfl rfl ?_
  rw [z5f fun h=>by have:=h.paper;rw [nt a2] at this;cases this];rfl
 refine VSt.go za false [] 200 rfl AllP.n ?_
 refine VSt.pc rfl rfl rfl rfl rfl rfl rfl rfl ((zhL s.first 0 999)) ?_
 refine VSt.go za false [] 200 rfl AllP.n ?_
 refine zg 19 rfl (fun a3=>?_) (fun a3=>?_)
 ·refine VSt.go za false [] 200 rfl AllP.n ?_
  refine EndsP.mk rfl rfl rfl ?_
  rw [z5f fun h=>by have:=h.first;rw [nt a3] at this;cases this];rfl
 refine VSt.go za false [] 200 rfl AllP.n ?_
 refine VSt.pc rfl rfl rfl rfl rfl rfl rfl rfl ((zhL s.catch_ 0 999)) ?_
 refine VSt.go za false [] 200 rfl AllP.n ?_
 refine zg 25 rfl (fun a4=>?_) (fun a4=>?_)
 ·refine VSt.go za false [] 200 rfl AllP.n ?_
  refine EndsP.mk rfl rfl rfl ?_
  rw [z5f fun h=>by have:=h.catch_;rw [nt a4] at this;cases this];rfl
 refine VSt.go za false [] 200 rfl AllP.n ?_
 refine VSt.pc rfl rfl rfl rfl rfl rfl rfl rfl ((z9n hz.holes)) ?_
 refine VSt.go za false [] 200 rfl AllP.n ?_
 refine zg 31 rfl (fun a5=>?_) (fun a5=>?_)
 ·refine VSt.go za false [] 200 rfl AllP.n ?_
  refine EndsP.mk rfl rfl rfl ?_
  rw [z5f fun h=>by have:=h.holes;rw [nt a5] at this;cases this];rfl
 refine VSt.go za false [] 200 rfl AllP.n ?_
 refine VSt.pc rfl rfl rfl rfl rfl rfl rfl rfl ((z9n hz.unsure)) ?_
 refine VSt.go za false [] 200 rfl AllP.n ?_
 refine zg 37 rfl (fun a6=>?_) (fun a6=>?_)
 ·refine VSt.go za false [] 200 rfl AllP.n ?_
  refine EndsP.mk rfl rfl rfl ?_
  rw [z5f fun h=>by have:=h.unsure;rw [nt a6] at this;cases this];rfl
 have h5:=wth_iff.1 (nf a5)
 have h6:=wth_iff.1 (nf a6)
 obtain ⟨i1,i2,i3,i4,i5,i6⟩:=s
 obtain ⟨m,rfl⟩:=zdl h5.1
 obtain ⟨k,rfl⟩:=zdl h6.1
 have hm:m<9223372036854775808:=by have:=h5.2;simp only [Int.ofNat_eq_natCast] at this;omega
 have hk:k<9223372036854775808:=by have:=h6.2;simp only [Int.ofNat_eq_natCast] at this;omega
 refine VSt.go za false [] 200 rfl AllP.n ?_
 refine VSt.pc rfl rfl rfl rfl rfl rfl rfl rfl ((zjQ hm hk)) ?_
 refine VSt.go za false [] 200 rfl AllP.n ?_
 refine VSt.cond rfl (fun a7=>?_) (fun a7=>?_)
 ·refine VSt.go za false [] 200 rfl AllP.n ?_
  refine EndsP.mk rfl rfl rfl ?_
  rw [z5f fun h=>by have:=h.apart;rw [a7] at this;cases this];rfl
 ·refine VSt.go za false [] 200 rfl AllP.n ?_
  refine EndsP.mk rfl rfl rfl ?_
  rw [zki ⟨nf a1,nf a2,nf a3,nf a4,nf a5,nf a6,a7⟩];rfl
end Go.Proofs.YtdpipdniklognaaGreat
/- Walks: where a sheet stands. -/
set_option maxRecDepth 100000
namespace Go.Proofs.YtdpipdniklognaaGreat
variable {r:Rm}
theorem zbM (a:Int):VP (sE r) 171 [iv a] (bv false):=by
 refine VP.of (fn:=Tryz.f171) za (zC rfl) (by kernel_rfl) rfl rfl rfl ?_
 refine VSt.go za false [] 200 rfl AllP.n ?_
 refine EndsP.mk rfl rfl rfl ?_
 show bv (!(a==a))=_
 rw [beq_self_eq_true];rfl
def zj4 (a b:Int):Int:=if a<b then -1 else if b<a then 1 else 0
theorem zmM (a b:Int):VP (sE r) 133 [iv a,iv b] (iv (zj4 a b)):=by
 refine VP.of (fn:=Tryz.f133) za (zC rfl) (by kernel_rfl) rfl rfl rfl ?_
 refine VSt.go za false [] 200 rfl AllP.n ?_
 refine VSt.pc rfl rfl rfl rfl rfl rfl rfl rfl ((zbM a)) ?_
 refine VSt.go za false [] 200 rfl AllP.n ?_
 refine VSt.pc rfl rfl rfl rfl rfl rfl rfl rfl ((zbM b)) ?_
 refine VSt.go za false [] 200 rfl AllP.n ?_
 refine VSt.cond rfl (fun h=>absurd h (by decide)) (fun _=>?_)
 refine VSt.go za false [] 200 rfl AllP.n ?_
 refine VSt.cond rfl (fun h=>absurd h (by decide)) (fun _=>?_)
 refine VSt.go za false [] 200 rfl AllP.n ?_
 refine VSt.cond rfl (fun h=>?_) (fun h=>?_)
 ·refine VSt.go za false [] 200 rfl AllP.n ?_
  refine EndsP.mk rfl rfl rfl ?_
  show iv _=iv _
  unfold zj4;rw [if_pos (of_decide_eq_true h)]
 ·refine VSt.go za false [] 200 rfl AllP.n ?_
  have h:=of_decide_eq_false h
  refine VSt.cond rfl (fun h2=>?_) (fun h2=>?_)
  ·refine VSt.go za false [] 200 rfl AllP.n ?_
   refine EndsP.mk rfl rfl rfl ?_
   show iv _=iv _
   unfold zj4;rw [if_neg h,if_pos (of_decide_eq_true h2)]
  ·refine VSt.go za false [] 200 rfl AllP.n ?_
   refine EndsP.mk rfl rfl rfl ?_
   show iv _=iv _
   unfold zj4;rw [if_neg h,if_neg (of_decide_eq_false h2)]
theorem cmp_lt {a b:Int}:decide (zj4 a b<0)=decide (a<b):=by
 unfold zj4
 by_cases h:a<b
 ·rw [if_pos h,decide_eq_true h];rfl
 ·rw [if_neg h,decide_eq_false h]
  split <;> rfl
theorem cmp_eq {a b:Int}:(zj4 a b==0)=(a==b):=by
 unfold zj4
 by_cases h:a<b
 ·rw [if_pos h,beq_false_of_ne (show a≠b by omega)];rfl
 ·rw [if_neg h]
  by_cases h2:b<a
  ·rw [if_pos h2,beq_false_of_ne (show a≠b by omega)];rfl
  ·have:a=b:=by omega
   subst this
   rw [if_neg h2,beq_self_eq_true,beq_self_eq_true]
theorem zc1 (o:Sht) (s:Int):VP (sE r) 139 [.agg ((zW o).map .p),iv s] (iv (zj4 o.id s)):=by
 refine VP.of (fn:=Tryz.f139) za (zC rfl) (by kernel_rfl) rfl rfl rfl ?_
 refine VSt.go za false [] 200 rfl AllP.n ?_
 refine VSt.pc rfl rfl rfl rfl rfl rfl rfl rfl ((zmM o.id s)) ?_
 refine VSt.go za false [] 200 rfl AllP.n ?_
 exact EndsP.mk rfl rfl rfl rfl
def Rising (l:List Sht):Prop:=∀ i,0<i→i<l.length→(zo l (i - 1)).id<(zo l i).id
theorem Rising.lt {l:List Sht} (h:Rising l):∀ {p q:Nat},p<q→q<l.length→(zo l p).id<(zo l q).id:=by
 intro p q hpq hq
 obtain ⟨d,rfl⟩:∃ d,q=p+1+d:=⟨q - (p+1),by omega⟩
 clear hpq
 induction d with
 | zero=>exact h (p+1) (by omega) hq
 | succ d ih =>
  have h1:=ih (by omega)
  have h2:=h (p+1+d+1) (by omega) hq
  rw [show p+1+d+1 - 1=p+1+d by omega] at h2
  exact Int.lt_trans h1 h2
theorem Rising.inj {l:List Sht} (h:Rising l) {p q:Nat} (hp:p<l.length) (hq:q<l.length) (e:(zo l p).id=(zo l q).id):p=q:=by
 rcases Nat.lt_trichotomy p q with g | g | g
 ·have:=h.lt g hq;omega
 ·exact g
 ·have:=h.lt g hp;omega
def z7d (l:List Sht) (s:Int):Nat:=(l.filter fun o=>decide (o.id<s)).length
def zhU (l:List Sht) (s:Int):Bool:=l.any fun o=>o.id==s
theorem zh2 {l:List Sht} {s:Int} {i:Nat} (hi:i≤l.length) (h1:∀ q,q<i→(zo l q).id<s) (h2:∀ q,i≤q→q<l.length→s≤(zo l q).id):z7d l s=i:=by
 unfold z7d
 have e:l=l.take i++l.drop i:=(List.take_append_drop i l).symm
 conv=>lhs;rw [e]
 rw [List.filter_append,List.filter_eq_self.2,List.filter_eq_nil_iff.2,List.append_nil,List.length_take]
 ·omega
 ·intro o ho
  obtain ⟨q,hq,e⟩:=List.mem_iff_getElem.1 ho
  rw [List.length_drop] at hq
  rw [List.getElem_drop] at e
  have:=h2 (i+q) (by omega) (by omega)
  unfold zo at this
  rw [z0f (by omega),e] at this
  rw [decide_eq_false (by omega)];decide
 ·intro o ho
  obtain ⟨q,hq,e⟩:=List.mem_iff_getElem.1 ho
  rw [List.length_take] at hq
  rw [List.getElem_take] at e
  have:=h1 q (by omega)
  unfold zo at this
  rw [z0f (by omega),e] at this
  exact decide_eq_true this
set_option maxHeartbeats 4000000 in
theorem zfN {b:Bool} {l:List Sht} {s:Int} (hR:Rising l) (hn:l.length<1000000):VP (sE r) 138 [.p (z0G b l),iv s,.fn 139 [] []] (.tup [nv (z7d l s),bv (zhU l s)]):=by
 have hmono:∀ p q,p≤q→q<l.length→(zo l p).id≤(zo l q).id:=fun p q hpq hq=>by
  by_cases e:p=q
  ·subst e;exact Int.le_refl _
  ·have h1:=hR.lt (show p<q by omega) hq;omega
 refine VP.of (fn:=Tryz.f138) za (zC rfl) (by kernel_rfl) rfl rfl rfl ?_
 refine VSt.go za false [] 200 rfl AllP.n ?_
 refine VSt.loop (α :=Nat×Nat) (fun x F L=>x.1≤x.2∧x.2≤l.length∧(∀ q,q<x.1→(zo l q).id<s)∧(∀ q,x.2≤q→q<l.length→s≤(zo l q).id)∧F=[(0,.p (z0G b l)),(1,iv s),(2,.fn 139 [] []),(8,nv l.length),(9,nv x.1),(10,nv x.2)]∧L=[]) (fun x=>x.2 - x.1) (0,l.length) (by (refine Vw.drop (by repeat (first | exact zu | refine zq rfl rfl rfl ?_ | refine z0o rfl ‹_› (z07 _ ‹_›) ?_)))) ⟨Nat.zero_le _,Nat.le_refl _,fun q h=>absurd h (Nat.not_lt_zero q),fun q h1 h2=>absurd h2 (by omega),rfl,rfl⟩ ?_
 rintro ⟨i,j⟩ F L ⟨h1,h2,h3,h4,rfl,rfl⟩
 refine VSt.go za false [] 200 rfl AllP.n ?_
 refine VSt.cond rfl (fun g=>?_) (fun g=>?_)
 ·have g:i<j:=nlt g
  have h2:j≤l.length:=h2
  have hm:(i+j) / 2<l.length:=by omega
  refine VSt.go za false [21] 200 rfl (AllP.c (by unfold inR;(try simp only [Int.ofNat_eq_natCast]);omega) AllP.n) ?_
  refine z5k rfl rfl (PureA.conv (ka:=.i64) (a:=Int.ofNat i+Int.ofNat j) (kc:=.u64) (c:=Int.ofNat (i+j)) rfl (zny (by omega))) ?_
  refine z5k rfl rfl (PureA.bin (ka:=.u64) (kb:=.u64) (a:=Int.ofNat (i+j)) (b:=1) (kc:=.u64) (c:=Int.ofNat ((i+j) / 2)) rfl rfl zk4) ?_
  refine z5k rfl rfl (PureA.conv (ka:=.u64) (a:=Int.ofNat ((i+j) / 2)) (kc:=.i64) (c:=Int.ofNat ((i+j) / 2)) rfl (znz (by omega))) ?_
  refine VSt.go za false [] 200 rfl (AllP.c ‹_› (AllP.c rfl AllP.n)) ?_
  refine VSt.pc rfl rfl rfl rfl rfl rfl rfl rfl ((zc1 (zo l ((i+j) / 2)) s)) ?_
  refine VSt.go za false [] 200 rfl AllP.n ?_
  refine VSt.cond rfl (fun g1=>?_) (fun g1=>?_)
  ·have g1:(zo l ((i+j) / 2)).id<s:=of_decide_eq_true (cmp_lt.symm.trans g1)
   refine VSt.go za false [] 200 rfl (AllP.c (by unfold inR;(try simp only [Int.ofNat_eq_natCast]);omega) AllP.n) ?_
   exact ⟨((i+j) / 2+1,j),_,_,(by (refine Vw.drop (by repeat (first | exact zu | refine zq rfl rfl rfl ?_ | refine z0o rfl ‹_› (z07 _ ‹_›) ?_)))),⟨by show (i+j) / 2+1≤j;omega,h2,fun q hq=>Int.lt_of_le_of_lt (hmono q ((i+j) / 2) (by have:q<(i+j) / 2+1:=hq;omega) hm) g1,h4,rfl,rfl⟩,by show j - ((i+j) / 2+1)<j - i;omega⟩
  ·have g1:¬ (zo l ((i+j) / 2)).id<s:=of_decide_eq_false (cmp_lt.symm.trans g1)
   refine VSt.go za false [] 200 rfl AllP.n ?_
   exact ⟨(i,(i+j) / 2),_,_,(by (refine Vw.drop (by repeat (first | exact zu | refine zq rfl rfl rfl ?_ | refine z0o rfl ‹_› (z07 _ ‹_›) ?_)))),⟨by show i≤(i+j) / 2;omega,by show (i+j) / 2≤l.length;omega,h3,fun q hq hq2=>Int.le_trans (by omega) (hmono ((i+j) / 2) q hq hq2),rfl,rfl⟩,by show (i+j) / 2 - i<j - i;omega⟩
 ·have g:i=j:=by
   have g:j≤i:=nge g
   have h1:i≤j:=h1
   omega
  subst g
  have hp:z7d l s=i:=zh2 h2 h3 h4
  refine VSt.go za false [] 200 rfl AllP.n ?_
  refine zg 39 rfl (fun g2=>?_) (fun g2=>?_)
  ·have g2:i<l.length:=nlt g2
   refine VSt.go za false [] 200 rfl (AllP.c ‹_› (AllP.c rfl AllP.n)) ?_
   refine VSt.pc rfl rfl rfl rfl rfl rfl rfl rfl ((zc1 (zo l i) s)) ?_
   refine VSt.go za false [] 200 rfl AllP.n ?_
   refine EndsP.mk rfl rfl rfl ?_
   show AV.tup [nv i,bv (zj4 (zo l i).id s==0)]=_
   rw [cmp_eq,hp]
   congr 4
   rw [Bool.eq_iff_iff]
   unfold zhU
   rw [List.any_eq_true]
   refine ⟨fun h=>⟨zo l i,z0E g2,h⟩,fun ⟨o,ho,h⟩=>?_⟩
   obtain ⟨q,hq,e⟩:=z2L (d:=default) ho
   have e:zo l q=o:=e
   rw [←e,beq_iff_eq] at h
   rcases Nat.lt_trichotomy q i with hlt | rfl | hgt
   ·have:=h3 q hlt;omega
   ·exact beq_iff_eq.2 h
   ·have k1:=h4 i (Nat.le_refl _) g2
    have k2:=hmono i q (Nat.le_of_lt hgt) hq
    exact beq_iff_eq.2 (by omega)
  ·have g2:i=l.length:=by have:=nge g2;have:i≤l.length:=h2;omega
   refine VSt.go za false [] 200 rfl AllP.n ?_
   refine EndsP.mk rfl rfl rfl ?_
   show AV.tup [nv i,bv false]=_
   rw [hp]
   congr 4
   symm
   unfold zhU
   rw [List.any_eq_false]
   intro o ho
   obtain ⟨q,hq,e⟩:=z2L (d:=default) ho
   have e:zo l q=o:=e
   have:=h3 q (by show q<i;omega)
   rw [e] at this
   rw [beq_false_of_ne (by omega)];decide
theorem find_ok {b b2:Bool} {l:List Sht} {w:List Sew} {s:Int} (hR:Rising l) (hn:l.length<1000000):VP (sE r) 97 [.agg [.p (z0G b l),.p (z3J b2 w)],iv s] (.tup [nv (z7d l s),bv (zhU l s)]):=by
 refine VP.of (fn:=Tryz.f97) za (zC rfl) (by kernel_rfl) rfl rfl rfl ?_
 refine VSt.go za false [] 200 rfl AllP.n ?_
 refine VSt.pc rfl rfl rfl rfl rfl rfl rfl rfl ((zfN (b:=b) (s:=s) hR hn)) ?_
 refine VSt.go za false [] 200 rfl AllP.n ?_
 exact EndsP.mk rfl rfl rfl rfl
theorem zcW {l:List Sht} (hR:Rising l) {i:Nat} (hi:i<l.length):z7d l (zo l i).id=i :=
 zh2 (Nat.le_of_lt hi) (fun q hq=>hR.lt hq hi) fun q hq hl=>by
  rcases Nat.lt_or_eq_of_le hq with h | h
  ·have:=hR.lt h hl;omega
  ·subst h;exact Int.le_refl _
theorem zeG {l:List Sht} {s:Int} (hR:Rising l) (h:zhU l s=true):z7d l s<l.length∧(zo l (z7d l s)).id=s:=by
 unfold zhU at h
 obtain ⟨o,ho,e⟩:=List.any_eq_true.1 h
 obtain ⟨i,hi,rfl⟩:=z2L (d:=default) ho
 have e:(zo l i).id=s:=beq_iff_eq.1 e
 have hp:z7d l s=i:=by rw [←e];exact zcW hR hi
 rw [hp];exact ⟨hi,e⟩
theorem zhT {l:List Sht} {i:Nat} (hi:i<l.length):zhU l (zo l i).id=true:=List.any_eq_true.2 ⟨zo l i,z0E hi,beq_self_eq_true _⟩
end Go.Proofs.YtdpipdniklognaaGreat
/- Walks: the program's check of a heap. -/
set_option maxRecDepth 100000
namespace Go.Proofs.YtdpipdniklognaaGreat
variable {r:Rm}
structure SzH (h:Hp):Prop where
 st:h.st.length<9223372036854775808
 sw:h.sw.length<9223372036854775808
 each:∀ k,k<h.st.length→SzS (zo h.st k)
 stN:h.stB=true→h.st=[]
 swN:h.swB=true→h.sw=[]
def z7h (l:List Sht) (k:Nat) (p:Int):Nat:=((l.take k).filter fun s=>s.paper==p).length
def cnt (l:List Sht) (p:Int):Nat:=(l.filter fun s=>s.paper==p).length
def cF (l:List Sht):Nat→Int→Option Int
 | 0=>fun _=>none
 | k+1=>fun q=>bif q==(zo l k).paper then some ((cF l k (zo l k).paper).getD 0+1) else cF l k q
theorem ze0 {l:List Sht} {k:Nat} (h:k<l.length):l.take (k+1)=l.take k++[zo l k]:=by
 unfold zo;rw [List.take_add_one,z0f h,List.getElem?_eq_getElem h];rfl
theorem ziy (l:List Sht):∀ k,k≤l.length→∀ q,(cF l k q).getD 0=Int.ofNat (z7h l k q)
 | 0,_,q=>by unfold z7h;rw [List.take_zero];rfl
 | k+1,h,q=>by
  have ih:=ziy l k (by omega)
  have e:z7h l (k+1) q=z7h l k q+(bif (zo l k).paper==q then 1 else 0):=by
   unfold z7h
   rw [ze0 (show k<l.length by omega),List.filter_append,List.length_append]
   cases hb:(zo l k).paper==q with
   | true=>rw [show [zo l k].filter (fun s=>s.paper==q)=[zo l k] from List.filter_cons_of_pos (p:=fun s:Sht=>s.paper==q) hb];rfl
   | false=>rw [show [zo l k].filter (fun s=>s.paper==q)=[] from List.filter_cons_of_neg (p:=fun s:Sht=>s.paper==q) (by rw [hb];decide)];rfl
  rw [e]
  show (bif q==(zo l k).paper then some ((cF l k (zo l k).paper).getD 0+1) else cF l k q).getD 0=_
  by_cases hq:q=(zo l k).paper
  ·subst hq
   rw [beq_self_eq_true,ih];rfl
  ·rw [beq_false_of_ne hq,beq_false_of_ne (Ne.symm hq)]
   exact ih q
theorem zmL (l:List Sht) (k:Nat) (p:Int):z7h l k p≤k:=Nat.le_trans (List.length_filter_le _ _) (by rw [List.length_take];omega)
def SewOk (l:List Sht) (x:Sew):Prop:=∃ a b,a<l.length∧b<l.length∧(zo l a).id=x.fro∧(zo l b).id=x.too∧a≠b∧(zo l a).paper=(zo l b).paper
structure OkH (h:Hp):Prop where
 st:h.st.length≤24
 sw:h.sw.length≤12
 ok:∀ i,i<h.st.length→OkS (zo h.st i)
 rise:Rising h.st
 few:∀ i,i<h.st.length→cnt h.st (zo h.st i).paper≤7
 sewn:∀ i,i<h.sw.length→SewOk h.st (zP h.sw i)
 froms:∀ i,0<i→i<h.sw.length→(zP h.sw (i - 1)).fro<(zP h.sw i).fro
 toos:∀ i,i<h.sw.length→∀ k,k<i→(zP h.sw k).too≠(zP h.sw i).too
open Classical in
noncomputable def ckH (h:Hp):Int:=if OkH h then 0 else 51
theorem z2C {h:Hp} (n:¬ OkH h):ckH h=51:=if_neg n
theorem zeQ {h:Hp} (n:OkH h):ckH h=0:=if_pos n
structure To1 (l:List Sht) (k:Nat):Prop where
 ok:∀ i,i<k→OkS (zo l i)
 few:∀ i,i<k→z7h l (i+1) (zo l i).paper≤7
 rise:∀ i,0<i→i<k→(zo l (i - 1)).id<(zo l i).id
theorem To1.zero (l:List Sht):To1 l 0:=⟨none0,none0,fun i _ hi=>absurd hi (Nat.not_lt_zero i)⟩
theorem To1.succ {l:List Sht} {k:Nat} (h:To1 l k) (h1:OkS (zo l k)) (h2:z7h l (k+1) (zo l k).paper≤7) (h3:0<k→(zo l (k - 1)).id<(zo l k).id):To1 l (k+1):=by
 refine ⟨z0H h.ok h1,z0H h.few h2,fun i h0 hi=>?_⟩
 by_cases e:i=k
 ·subst e;exact h3 h0
 ·exact h.rise i h0 (by omega)
theorem zin (l:List Sht) (p:Int) {a b:Nat} (h:a≤b):z7h l a p≤z7h l b p:=by
 unfold z7h
 obtain ⟨d,rfl⟩:∃ d,b=a+d:=⟨b - a,by omega⟩
 rw [List.take_add,List.filter_append,List.length_append];omega
theorem zeN (l:List Sht) (p:Int):z7h l l.length p=cnt l p:=by unfold z7h cnt;rw [List.take_length]
theorem OkH.few1 {h:Hp} (n:OkH h) {k:Nat} (hk:k<h.st.length):z7h h.st (k+1) (zo h.st k).paper≤7 :=
 Nat.le_trans (by rw [←zeN];exact zin _ _ hk) (n.few k hk)
theorem zkg {l:List Sht} (h:∀ i,i<l.length→z7h l (i+1) (zo l i).paper≤7) (p:Int):cnt l p≤7:=by
 rw [←zeN]
 have:∀ k,k≤l.length→z7h l k p≤7:=by
  intro k
  induction k with
  | zero=>intro _;unfold z7h;rw [List.take_zero];exact Nat.zero_le _
  | succ k ih =>
   intro hk
   by_cases e:(zo l k).paper=p
   ·rw [←e];exact h k hk
   ·have:z7h l (k+1) p=z7h l k p:=by
     unfold z7h
     rw [ze0 hk,List.filter_append,show [zo l k].filter (fun s=>s.paper==p)=[] from List.filter_cons_of_neg (p:=fun s:Sht=>s.paper==p) (by rw [beq_false_of_ne e];decide),List.append_nil]
    rw [this];exact ih (by omega)
 exact this _ (Nat.le_refl _)
theorem zit (o x:Sew):VP (sE r) 99 [.agg ((zj3 o).map .p),.p (.fp (zj3 x) 0)] (bv (o.too==x.too)):=by
 refine VP.of (fn:=Tryz.f99) za (zC rfl) (by kernel_rfl) rfl rfl rfl ?_
 refine VSt.go za false [] 200 rfl AllP.n ?_
 exact EndsP.mk rfl rfl rfl rfl
theorem zmq {b:Bool} {l:List Sew} {f:Nat} {first cap:List AV} {p:Sew→Bool} (hn:l.length<9223372036854775808) (hon:(AV.fn f first cap).only (olds [])=true) (hoc:∀ x,z03 (olds []) (first++([.agg ((zj3 x).map .p)]++cap))=true) (hf:∀ x,VP (sE r) f (first++([.agg ((zj3 x).map .p)]++cap)) (bv (p x))) :
  VP (sE r) 140 [.p (z3J b l),.fn f first cap] (iv (z8q l p)):=by
 refine VP.of (fn:=Tryz.f140) za (zC rfl) (by kernel_rfl) rfl rfl rfl ?_
 refine VSt.run za false [] 200 rfl trivial ?_
 refine z6D za l.length (by omega) (fun _=>[(0,.p (z3J b l)),(1,.fn f first cap)]) (fun _=>[]) (fun k=>∀ i,i<k→p (l.getD i default)=false) rfl rfl (fun _=>rfl) ?_ (fun i hi=>absurd hi (Nat.not_lt_zero i)) (fun k hk hp=>?_) (fun hp=>?_)
 ·(refine Vw.drop (by repeat (first | exact zu | refine zq rfl rfl rfl ?_ | refine z0o rfl ‹_› (z07 _ ‹_›) ?_)))
 ·refine VSt.run za false [] 200 rfl (⟨hk,rfl⟩) ?_
  refine z5V (hf (l.getD k default)) rfl rfl rfl rfl rfl rfl (hoc _) ?_
  refine VSt.run za false [] 200 rfl trivial ?_
  refine VSt.cond rfl (fun hc=>?_) (fun hc=>?_)
  ·refine VSt.run za false [] 200 rfl trivial ?_
   refine EndsP.mk rfl rfl rfl ?_
   rw [zan hk hc hp];rfl
  ·refine VSt.run za false [] 200 rfl trivial ?_
   refine ⟨by (refine Vw.drop (by repeat (first | exact zu | refine zq rfl rfl rfl ?_ | refine z0o rfl ‹_› (z07 _ ‹_›) ?_))),fun i hi=>?_⟩
   by_cases e:i=k
   ·subst e;exact hc
   ·exact hp i (by omega)
 ·refine VSt.run za false [] 200 rfl trivial ?_
  refine EndsP.mk rfl rfl rfl ?_
  rw [z8p hp];rfl
theorem zk2 {α : Type} (l:List α) (p : α → Bool):decide (0≤z8q l p)=l.any p:=by
 unfold z8q
 cases h:l.findIdx? p with
 | none =>
  rw [List.findIdx?_eq_none_iff] at h
  symm
  show l.any p=false
  rw [List.any_eq_false]
  exact fun x hx=>by simp [h x hx]
 | some k =>
  have:l.any p=true:=by
   rw [List.findIdx?_eq_some_iff_getElem] at h
   obtain ⟨hk,h,_⟩:=h
   exact List.any_eq_true.2 ⟨_,List.getElem_mem hk,h⟩
  rw [this];exact decide_eq_true (Int.natCast_nonneg k)
theorem zkf {b:Bool} {l:List Sew} {f:Nat} {first cap:List AV} {p:Sew→Bool} (hn:l.length<9223372036854775808) (hon:(AV.fn f first cap).only (olds [])=true) (hoc:∀ x,z03 (olds []) (first++([.agg ((zj3 x).map .p)]++cap))=true) (hf:∀ x,VP (sE r) f (first++([.agg ((zj3 x).map .p)]++cap)) (bv (p x))) :
  VP (sE r) 98 [.p (z3J b l),.fn f first cap] (bv (l.any p)):=by
 refine VP.of (fn:=Tryz.f98) za (zC rfl) (by kernel_rfl) rfl rfl rfl ?_
 refine VSt.run za false [] 200 rfl trivial ?_
 refine z5V (zmq hn hon hoc hf) rfl rfl rfl rfl rfl rfl (by
  show (true&&((AV.fn f first cap).only (olds [])&&true))=true
  rw [hon];rfl) ?_
 refine VSt.run za false [] 200 rfl trivial ?_
 refine EndsP.mk rfl rfl rfl ?_
 show bv _=bv _
 congr 2
 exact zk2 l p
structure To2 (h:Hp) (k:Nat):Prop where
 sewn:∀ i,i<k→SewOk h.st (zP h.sw i)
 froms:∀ i,0<i→i<k→(zP h.sw (i - 1)).fro<(zP h.sw i).fro
 toos:∀ i,i<k→∀ j,j<i→(zP h.sw j).too≠(zP h.sw i).too
theorem To2.zero (h:Hp):To2 h 0:=⟨none0,fun i _ hi=>absurd hi (Nat.not_lt_zero i),none0⟩
theorem To2.succ {h:Hp} {k:Nat} (n:To2 h k) (h1:SewOk h.st (zP h.sw k)) (h2:0<k→(zP h.sw (k - 1)).fro<(zP h.sw k).fro) (h3:∀ j,j<k→(zP h.sw j).too≠(zP h.sw k).too):To2 h (k+1):=by
 refine ⟨z0H n.sewn h1,fun i h0 hi=>?_,z0H n.toos h3⟩
 by_cases e:i=k
 ·subst e;exact h2 h0
 ·exact n.froms i h0 (by omega)
theorem SewOk.has {l:List Sht} {x:Sew} (h:SewOk l x):zhU l x.fro=true∧zhU l x.too=true:=by
 obtain ⟨a,b,ha,hb,e1,e2,_⟩:=h
 exact ⟨by rw [←e1];exact zhT ha,by rw [←e2];exact zhT hb⟩
theorem SewOk.pos {l:List Sht} (hR:Rising l) {x:Sew} (h:SewOk l x):z7d l x.fro≠z7d l x.too∧(zo l (z7d l x.fro)).paper=(zo l (z7d l x.too)).paper:=by
 obtain ⟨a,b,ha,hb,e1,e2,h1,h2⟩:=h
 rw [←e1,←e2,zcW hR ha,zcW hR hb]
 exact ⟨h1,h2⟩
theorem SewOk.of {l:List Sht} (hR:Rising l) {x:Sew} (h1:zhU l x.fro=true) (h2:zhU l x.too=true) (h3:z7d l x.fro≠z7d l x.too) (h4:(zo l (z7d l x.fro)).paper=(zo l (z7d l x.too)).paper):SewOk l x:=by
 obtain ⟨a1,a2⟩:=zeG hR h1
 obtain ⟨b1,b2⟩:=zeG hR h2
 exact ⟨_,_,a1,b1,a2,b2,h3,h4⟩
set_option maxHeartbeats 4000000 in
theorem zkj {h:Hp} (hz:SzH h):VP (sE r) 32 [.agg ((eHp h).map .p)] (iv (ckH h)):=by
 have hn:=hz.st
 have hm:=hz.sw
 refine VP.of (fn:=Tryz.f32) za (zC rfl) (by kernel_rfl) rfl rfl rfl ?_
 refine VSt.go za false [] 200 rfl AllP.n ?_
 refine zf (z00 0 (eHp h) rfl rfl) ?_
 refine zg 16 rfl (fun a1=>?_) (fun a1=>?_)
 ·have a1:=of_decide_eq_true a1
  refine VSt.go za false [] 200 rfl AllP.n ?_
  refine EndsP.mk rfl rfl rfl ?_
  rw [z2C fun h=>by have:=h.st;simp only [Int.ofNat_eq_natCast] at a1;omega];rfl
 have hl:h.st.length≤24:=by have a1:=of_decide_eq_false a1;simp only [Int.ofNat_eq_natCast] at a1;omega
 refine VSt.go za false [] 200 rfl AllP.n ?_
 refine VSt.cond rfl (fun a2=>?_) (fun a2=>?_)
 ·have a2:=of_decide_eq_true a2
  refine VSt.go za false [] 200 rfl AllP.n ?_
  refine EndsP.mk rfl rfl rfl ?_
  rw [z2C fun h=>by have:=h.sw;simp only [Int.ofNat_eq_natCast] at a2;omega];rfl
 have hl2:h.sw.length≤12:=by have a2:=of_decide_eq_false a2;simp only [Int.ofNat_eq_natCast] at a2;omega
 refine VSt.go za false [] 200 rfl AllP.n ?_
 refine z0r za h.st.length (by omega) [1,24] (fun k=>[(3,.map 0)]) (fun k=>[(0,.mapI (cF h.st k))]) (fun k=>To1 h.st k) rfl rfl rfl (fun _=>rfl) rfl rfl (z2R rfl (AImp.refl _) z1k) (LImp.refl _) (To1.zero _) (fun k hk hp=>?_) (fun hp=>?_)
 ·have hzk:=hz.each k hk
  have e1:(cF h.st k (zo h.st k).paper).getD 0=_:=ziy h.st k (by omega) _
  have hc1:=zmL h.st k (zo h.st k).paper
  have hck:=zoj (r:=r) hzk
  have hi:inR ((cF h.st k (zo h.st k).paper).getD 0+1):=by rw [e1];unfold inR;simp only [Int.ofNat_eq_natCast];omega
  have e2:z7h h.st (k+1) (zo h.st k).paper=z7h h.st k (zo h.st k).paper+1:=by
   have:=ziy h.st (k+1) (by omega) (zo h.st k).paper
   have e3:(cF h.st (k+1) (zo h.st k).paper).getD 0=(cF h.st k (zo h.st k).paper).getD 0+1:=by
    show (bif (zo h.st k).paper==(zo h.st k).paper then some ((cF h.st k (zo h.st k).paper).getD 0+1) else _).getD 0=_
    rw [beq_self_eq_true];rfl
   rw [e3,e1] at this
   have:=Int.ofNat_inj.1 (show Int.ofNat (z7h h.st k (zo h.st k).paper+1)=_ from this)
   exact this.symm
  have e4:(bif (zo h.st k).paper==(zo h.st k).paper then some ((cF h.st k (zo h.st k).paper).getD 0+1) else cF h.st k (zo h.st k).paper).getD 0=Int.ofNat (z7h h.st k (zo h.st k).paper+1):=by
   rw [beq_self_eq_true]
   show (cF h.st k (zo h.st k).paper).getD 0+1=_
   rw [e1];rfl
  rcases zoi (zo h.st k) with ⟨hO,e⟩ | ⟨hO,e⟩
  rotate_left
  ·rw [e] at hck
   refine VSt.go za false [] 200 rfl (AllP.c ‹_› (AllP.c rfl (AllP.c ‹_› AllP.n))) ?_
   refine z1P rfl rfl rfl rfl rfl rfl rfl rfl (hck) ?_
   refine VSt.go za false [] 200 rfl AllP.n ?_
   refine z0a 39 rfl (fun q=>?_) (fun q=>?_)
   rotate_left
   ·exact absurd q (by decide)
   refine VSt.go za false [] 200 rfl AllP.n ?_
   refine EndsP.mk rfl rfl rfl ?_
   rw [z2C fun n=>hO (n.ok k hk)];rfl
  rw [e] at hck
  refine VSt.go za false [] 200 rfl (AllP.c ‹_› (AllP.c rfl (AllP.c ‹_› AllP.n))) ?_
  refine z1P rfl rfl rfl rfl rfl rfl rfl rfl (hck) ?_
  refine VSt.go za false [] 200 rfl AllP.n ?_
  refine z0a 39 rfl (fun q=>?_) (fun q=>?_)
  ·exact absurd q (by decide)
  refine VSt.go za false [] 200 rfl AllP.n ?_
  refine z0a 46 rfl (fun a3=>?_) (fun a3=>?_)
  ·have a3:=of_decide_eq_true a3
   refine VSt.go za false [] 200 rfl AllP.n ?_
   refine EndsP.mk rfl rfl rfl ?_
   rw [z2C fun n=>by
    have:=n.few1 hk
    rw [e4] at a3
    simp only [Int.ofNat_eq_natCast] at a3
    omega];rfl
  have hfew:z7h h.st (k+1) (zo h.st k).paper≤7:=by
   have a3:=of_decide_eq_false a3
   rw [e4] at a3
   simp only [Int.ofNat_eq_natCast] at a3
   omega
  refine VSt.go za false [] 200 rfl AllP.n ?_
  refine z0a 49 rfl (fun a4=>?_) (fun a4=>?_)
  ·have h0:=n0 a4
   refine VSt.go za false [54] 200 rfl (AllP.c (by unfold inR;(try simp only [Int.ofNat_eq_natCast]);omega) AllP.n) ?_
   refine z0v 53 (nv (k - 1)) rfl (zcU h0) ?_
   refine VSt.go za false [] 200 rfl (AllP.c (by omega) (AllP.c rfl AllP.n)) ?_
   refine VSt.cond rfl (fun a5=>?_) (fun a5=>?_)
   ·have a5:(zo h.st k).id≤(zo h.st (k - 1)).id:=of_decide_eq_true a5
    refine VSt.go za false [] 200 rfl AllP.n ?_
    refine EndsP.mk rfl rfl rfl ?_
    rw [z2C fun n=>by have:=n.rise k h0 hk;omega];rfl
   ·have a5:¬ (zo h.st k).id≤(zo h.st (k - 1)).id:=of_decide_eq_false a5
    refine VSt.go za false [] 200 rfl AllP.n ?_
    exact ⟨by refine zN (ps:=[(0,0)]) ⟨rfl,rfl,(by repeat (first | exact zu | refine zq rfl rfl rfl ?_)),_,rfl,((LImp.refl _))⟩,hp.succ hO hfew fun _=>by omega⟩
  ·have h0:=n0' a4
   refine VSt.go za false [] 200 rfl AllP.n ?_
   exact ⟨by refine zN (ps:=[(0,0)]) ⟨rfl,rfl,(by repeat (first | exact zu | refine zq rfl rfl rfl ?_)),_,rfl,((LImp.refl _))⟩,hp.succ hO hfew fun h1=>by omega⟩
 ·have hR:Rising h.st:=hp.rise
  refine VSt.go za false [] 200 rfl AllP.n ?_
  refine zl (Vw.kp [1,64,65,66] [] rfl) ?_
  refine z0r za h.sw.length (by omega) [1,64] (fun k=>[]) (fun k=>[]) (fun k=>To2 h k) rfl rfl rfl (fun _=>rfl) rfl rfl z1k trivial (To2.zero _) (fun k hk hq=>?_) (fun hq=>?_)
  ·have hA:=zeG (s:=(zP h.sw k).fro) hR
   have hB:=zeG (s:=(zP h.sw k).too) hR
   have htl:(h.sw.take k).length=k:=by rw [List.length_take];omega
   have hcont:=zkf (r:=r) (b:=h.swB) (l:=h.sw.take k) (f:=99) (first:=[]) (cap:=[.p (.fp (zj3 (zP h.sw k)) 0)]) (p:=fun o=>o.too==(zP h.sw k).too) (by omega) rfl (fun _=>rfl) (fun x=>zit x _)
   refine VSt.go za false [] 200 rfl (AllP.c ‹_› (AllP.c rfl AllP.n)) ?_
   refine zf (z00 0 (zj3 (zP h.sw k)) rfl rfl) ?_
   refine VSt.pc rfl rfl rfl rfl rfl rfl rfl rfl ((find_ok (b:=h.stB) (b2:=h.swB) (l:=h.st) (w:=h.sw) (s:=(zP h.sw k).fro) hR (by omega))) ?_
   refine VSt.go za false [] 200 rfl AllP.n ?_
   refine VSt.pc rfl rfl rfl rfl rfl rfl rfl rfl ((find_ok (b:=h.stB) (b2:=h.swB) (l:=h.st) (w:=h.sw) (s:=(zP h.sw k).too) hR (by omega))) ?_
   refine VSt.go za false [] 200 rfl AllP.n ?_
   refine z0a 87 rfl (fun b1=>?_) (fun b1=>?_)
   ·refine VSt.go za false [] 200 rfl AllP.n ?_
    refine EndsP.mk rfl rfl rfl ?_
    rw [z2C fun n=>by have:=(n.sewn k hk).has.1;rw [nt b1] at this;cases this];rfl
   have c1:=nf b1
   refine VSt.go za false [] 200 rfl AllP.n ?_
   refine z0a 91 rfl (fun b2=>?_) (fun b2=>?_)
   ·refine VSt.go za false [] 200 rfl AllP.n ?_
    refine EndsP.mk rfl rfl rfl ?_
    rw [z2C fun n=>by have:=(n.sewn k hk).has.2;rw [nt b2] at this;cases this];rfl
   have c2:=nf b2
   have d1:=(hA c1).1
   have d2:=(hB c2).1
   refine VSt.go za false [] 200 rfl AllP.n ?_
   refine z0a 96 rfl (fun b3=>?_) (fun b3=>?_)
   ·have b3:z7d h.st (zP h.sw k).fro=z7d h.st (zP h.sw k).too:=Int.ofNat_inj.1 (eq_of_beq b3)
    refine VSt.go za false [] 200 rfl AllP.n ?_
    refine EndsP.mk rfl rfl rfl ?_
    rw [z2C fun n=>((n.sewn k hk).pos hR).1 b3];rfl
   have c3:z7d h.st (zP h.sw k).fro≠z7d h.st (zP h.sw k).too:=fun e=>ne_of_beq_false b3 (by rw [e])
   refine VSt.go za false [] 200 rfl (AllP.c ‹_› (AllP.c rfl (AllP.c ‹_› (AllP.c rfl AllP.n)))) ?_
   refine z0a 111 rfl (fun b4=>?_) (fun b4=>?_)
   ·have b4:((zo h.st (z7d h.st (zP h.sw k).fro)).paper==(zo h.st (z7d h.st (zP h.sw k).too)).paper)=false:=nt b4
    refine VSt.go za false [] 200 rfl AllP.n ?_
    refine EndsP.mk rfl rfl rfl ?_
    rw [z2C fun n=>ne_of_beq_false b4 ((n.sewn k hk).pos hR).2];rfl
   have c4:(zo h.st (z7d h.st (zP h.sw k).fro)).paper=(zo h.st (z7d h.st (zP h.sw k).too)).paper:=eq_of_beq (nf b4)
   have hS:=SewOk.of hR c1 c2 c3 c4
   refine VSt.go za false [] 200 rfl AllP.n ?_
   refine z0a 114 rfl (fun b5=>?x1) (fun b5=>?x2)
   case' x1 =>
    have h0:=n0 b5
    refine VSt.go za false [119] 200 rfl (AllP.c (by unfold inR;(try simp only [Int.ofNat_eq_natCast]);omega) AllP.n) ?_
    refine z0v 118 (nv (k - 1)) rfl (zcU h0) ?_
    refine VSt.go za false [] 200 rfl (AllP.c (by omega) (AllP.c rfl AllP.n)) ?_
    refine z0a 127 rfl (fun b6=>?_) (fun b6=>?_)
    ·have b6:(zP h.sw k).fro≤(zP h.sw (k - 1)).fro:=of_decide_eq_true b6
     refine VSt.go za false [] 200 rfl AllP.n ?_
     refine EndsP.mk rfl rfl rfl ?_
     rw [z2C fun n=>by have:=n.froms k h0 hk;omega];rfl
    have hri:0<k→(zP h.sw (k - 1)).fro<(zP h.sw k).fro:=fun _=>by have b6:¬ (zP h.sw k).fro≤(zP h.sw (k - 1)).fro:=of_decide_eq_false b6;omega
   case' x2 =>
    have hri:0<k→(zP h.sw (k - 1)).fro<(zP h.sw k).fro:=fun h=>absurd (n0' b5) (by omega)
   all_goals
    refine VSt.go za false [132] 200 rfl (AllP.c (by omega) (AllP.c (by omega) (AllP.c (fun _ _=>rfl) AllP.n))) ?_
    refine z0v 131 (.p (z3J h.swB (h.sw.take k))) rfl (by
     show AImp _ (.p (.lst _ h.swB (h.sw.take k).length _))
     rw [htl]
     exact AImp.lst fun j hj=>by
      show fW h.sw (0+j)=fW (h.sw.take k) j
      unfold fW zP
      rw [Nat.zero_add]
      simp only [List.getD_eq_getElem?_getD]
      rw [List.getElem?_take,if_pos (show j<k from hj)]) ?_
    refine VSt.go za false [] 200 rfl AllP.n ?_
    refine z1P rfl rfl rfl rfl rfl rfl rfl rfl (hcont) ?_
    refine VSt.go za false [] 200 rfl AllP.n ?_
    refine VSt.cond rfl (fun b7=>?_) (fun b7=>?_)
    ·have b7:(h.sw.take k).any (fun o=>o.too==(zP h.sw k).too)=true:=b7
     refine VSt.go za false [] 200 rfl AllP.n ?_
     refine EndsP.mk rfl rfl rfl ?_
     rw [z2C fun n=>by
      obtain ⟨o,ho,e⟩:=List.any_eq_true.1 b7
      obtain ⟨j,hj,rfl⟩:=z2L (d:=default) ho
      rw [htl] at hj
      have e:((h.sw.take k).getD j default).too=(zP h.sw k).too:=eq_of_beq e
      refine n.toos k hk j hj ?_
      rw [←e]
      unfold zP
      simp only [List.getD_eq_getElem?_getD]
      rw [List.getElem?_take,if_pos hj]];rfl
    ·have b7:(h.sw.take k).any (fun o=>o.too==(zP h.sw k).too)=false:=b7
     refine VSt.go za false [] 200 rfl AllP.n ?_
     refine ⟨by (refine Vw.drop (by repeat (first | exact zu | refine zq rfl rfl rfl ?_ | refine z0o rfl ‹_› (z07 _ ‹_›) ?_))),hq.succ hS hri fun j hj e=>?_⟩
     rw [List.any_eq_false] at b7
     refine b7 ((h.sw.take k).getD j default) (z0E (by omega)) ?_
     rw [beq_iff_eq,←e]
     unfold zP
     simp only [List.getD_eq_getElem?_getD]
     rw [List.getElem?_take,if_pos hj]
  ·refine VSt.go za false [] 200 rfl AllP.n ?_
   refine EndsP.mk rfl rfl rfl ?_
   rw [zeQ ⟨hl,hl2,hp.ok,hR,fun i _=>zkg hp.few _,hq.sewn,hq.froms,hq.toos⟩];rfl
end Go.Proofs.YtdpipdniklognaaGreat
/- Walks: the reference's check of a heap. -/
set_option maxRecDepth 100000
namespace Go.Proofs.YtdpipdniklognaaGreat
variable {r:Rm}
def fL (l:List Int):Nat→List PV:=fun q=>[.int .i64 (l.getD q 0)]
theorem zdG (l:List Int) (y:Int) (q:Nat) (hq:q<l.length+1):(bif Nat.blt q l.length then fL l q else ([PV.int .i64 y].drop ((q - l.length)*1)).take 1)=fL (l++[y]) q:=by
 unfold fL
 by_cases e:q<l.length
 ·rw [zfO e]
  simp only [cond_true,List.getD_eq_getElem?_getD]
  rw [List.getElem?_append_left e]
 ·have:q=l.length:=by omega
  subst this
  rw [ziA e,Nat.sub_self]
  simp
def eL (l:List Int):PV:=z2F l.isEmpty l
theorem zf2 {l:List Int} {n:Nat} (hn:n=l.length):(AV.p (.lst 3 (true&&Nat.beq n 0) n (fL l))) = .p (eL l):=by
 subst hn
 cases l <;> rfl
def zqw (l:List Sht) (p:Int):List Int:=(l.filter fun s=>s.paper==p).map (·.id)
structure To3 (l:List Sht) (k:Nat):Prop where
 ok:∀ i,i<k→OkS (zo l i)
 few:∀ i,i<k→cnt l (zo l i).paper≤7
 rise:∀ i,0<i→i<k→(zo l (i - 1)).id<(zo l i).id
theorem To3.zero (l:List Sht):To3 l 0:=⟨none0,none0,fun i _ hi=>absurd hi (Nat.not_lt_zero i)⟩
theorem To3.succ {l:List Sht} {k:Nat} (h:To3 l k) (h1:OkS (zo l k)) (h2:cnt l (zo l k).paper≤7) (h3:0<k→(zo l (k - 1)).id<(zo l k).id):To3 l (k+1):=by
 refine ⟨z0H h.ok h1,z0H h.few h2,fun i h0 hi=>?_⟩
 by_cases e:i=k
 ·subst e;exact h3 h0
 ·exact h.rise i h0 (by omega)
end Go.Proofs.YtdpipdniklognaaGreat
/- Walks: sheets and threads copied, and taken away. -/
set_option maxRecDepth 100000
namespace Go.Proofs.YtdpipdniklognaaGreat
variable {r:Rm}
theorem Vw.empAcc {E:Env} {d i sz sz' sz2:Nat} {f g:Nat→List PV} {t t':TypeId}:Vw E [] [(d,.sl i sz 0 0 0 2)] [(i,.arr 0 sz' f t)] [(d,.acc false i sz 0)] [(i,.acc 0 sz2 g t')]:=by
 intro T S Z j hS hF
 obtain ⟨b,hj,vs,gg,h1,h2,h3,h4⟩:=hS.blk i (.arr 0 sz' f t) (by simp [bk]) id
 have hr:=hS.unrom hj
 refine ⟨ZB Z b,fun _=>none,⟨fun c hc=>?_,fun k c hk=>(by cases hk),fun k k' c hk=>(by cases hk),fun k hk=>rfl,fun k vb hk=>?_,fun c q hc=>⟨(hS.rom c q hc).1,fun k hk=>(by cases hk)⟩⟩,fun x a ha=>?_,⟨Nat.le_refl _,fun _ _ _=>rfl,fun c hc=>.inl hc,fun c hc=>?_,fun k c hk=>(by cases hk),Nat.le_refl _,fun _ h _ _=>h⟩,fun k hk=>(by cases hk)⟩
 ·rcases hc with hc | rfl
  ·exact hS.zlt c hc
  ·exact (hS.jlt i _ hj).1
 ·simp only [bk] at hk
  cases hb:Nat.beq i k with
  | true=>rw [hb] at hk;cases hk;exact .inl rfl
  | false=>rw [hb] at hk;cases hk
 ·simp only [ak] at ha
  cases hb:Nat.beq d x with
  | true =>
   rw [hb] at ha
   cases ha
   obtain ⟨v,h5,h6⟩:=hF x (.sl i sz 0 0 0 2) (by simp only [ak];rw [hb];rfl)
   refine ⟨v,h5,?_⟩
   cases h6 with
   | sl h =>
    rw [hj] at h;cases h
    exact .accE (.inr rfl) ((z2J hr).trans h1) (by simp)
  | false=>rw [hb] at ha;cases ha
 ·rcases hc with hc | rfl
  ·exact .inl hc
  ·exact .inr (.inr ⟨i,hj⟩)
theorem zkD {i sz m m' c c':Nat} (h:m=m') (h2:c=c'):AImp (.sl i sz 0 m c 0) (.sl i sz 0 m' c' 0):=by subst h h2;exact AImp.refl _
theorem zmr {b:Bool} {l:List Sht} {f:Nat} {first cap:List AV} {p:Sht→Bool} (hn:l.length<9223372036854775808) (hon:(AV.fn f first cap).only (olds [])=true) (hoc:∀ x,z03 (olds []) (first++([.agg ((zW x).map .p)]++cap))=true) (hf:∀ x,VP (sE r) f (first++([.agg ((zW x).map .p)]++cap)) (bv (p x))) :
  VP (sE r) 122 [.p (z0G b l),.fn f first cap] (iv (z8q l p)):=by
 refine VP.of (fn:=Tryz.f122) za (zC rfl) (by kernel_rfl) rfl rfl rfl ?_
 refine VSt.run za false [] 200 rfl trivial ?_
 refine z6D za l.length (by omega) (fun _=>[(0,.p (z0G b l)),(1,.fn f first cap)]) (fun _=>[]) (fun k=>∀ i,i<k→p (l.getD i default)=false) rfl rfl (fun _=>rfl) ?_ (fun i hi=>absurd hi (Nat.not_lt_zero i)) (fun k hk hp=>?_) (fun hp=>?_)
 ·(refine Vw.drop (by repeat (first | exact zu | refine zq rfl rfl rfl ?_ | refine z0o rfl ‹_› (z07 _ ‹_›) ?_)))
 ·refine VSt.run za false [] 200 rfl (⟨hk,rfl⟩) ?_
  refine z5V (hf (l.getD k default)) rfl rfl rfl rfl rfl rfl (hoc _) ?_
  refine VSt.run za false [] 200 rfl trivial ?_
  refine VSt.cond rfl (fun hc=>?_) (fun hc=>?_)
  ·refine VSt.run za false [] 200 rfl trivial ?_
   refine EndsP.mk rfl rfl rfl ?_
   rw [zan hk hc hp];rfl
  ·refine VSt.run za false [] 200 rfl trivial ?_
   refine ⟨by (refine Vw.drop (by repeat (first | exact zu | refine zq rfl rfl rfl ?_ | refine z0o rfl ‹_› (z07 _ ‹_›) ?_))),fun i hi=>?_⟩
   by_cases e:i=k
   ·subst e;exact hc
   ·exact hp i (by omega)
 ·refine VSt.run za false [] 200 rfl trivial ?_
  refine EndsP.mk rfl rfl rfl ?_
  rw [z8p hp];rfl
theorem zio {b:Bool} {l:List Sht} (hb:b=true→l=[]) (hn:l.length<1000000):VC (sE r) [] 109 [.p (z0G b l)] [] (fun a L=>a = .acc b 0 6 l.length∧L=[(0,.acc l.length 6 (fS l) 74)]):=by
 refine VC.of (fn:=Tryz.f109) za (zC rfl) (by kernel_rfl) rfl rfl ?_
 refine VSt.run za false [] 200 rfl trivial ?_
 refine VSt.cond rfl (fun h=>?_) (fun h=>?_)
 ·refine zl (z3L 0 6 (fS l) 74 rfl) ?_
  refine VSt.run za false [] 200 rfl trivial ?_
  have e:=hb h
  subst e;subst h
  exact ⟨rfl,_,[(0,0)],_,_,rfl,⟨rfl,rfl,z1B rfl rfl z1h zu,_,rfl,LImp.refl _⟩,rfl,rfl⟩
 ·subst h
  cases hl:l with
  | nil =>
   subst hl
   refine VSt.go za true [2] 200 rfl (AllP.c rfl AllP.n) ?_
   refine zf (Vw.trans (zN (ps:=[(0,0)]) (F0:=[(7,.sl 0 6 0 0 0 2)]) (L0:=[(0,.arr 0 6 (fun _=>[]) 74)]) ⟨rfl,rfl,(by repeat (first | exact zu | refine zq rfl rfl rfl ?_)),_,rfl,LImp.refl _⟩) (Vw.empAcc (sz2:=6) (g:=fS []) (t':=74))) ?_
   refine VSt.run za false [] 200 rfl trivial ?_
   exact ⟨rfl,_,[(0,0)],_,_,rfl,⟨rfl,rfl,z1B rfl rfl (AImp.refl _) zu,_,rfl,LImp.refl _⟩,rfl,rfl⟩
  | cons x m =>
   subst hl
   refine VSt.run za false [] 200 rfl (⟨Nat.succ_pos _,(by simp only [List.length_cons] at hn ⊢;omega),(fun q hq=>rfl),rfl,rfl,(by simp only [List.length_cons];omega),Nat.le_refl _⟩) ?_
   exact ⟨rfl,_,[(0,1)],_,[(0,.acc (m.length+1) 6 (fS (x::m)) 74)],rfl,⟨rfl,rfl,z1B rfl rfl (z6F (Nat.succ_pos _) (Nat.zero_add _) (Nat.zero_add _)) zu,_,rfl,⟨rfl,z5m (Nat.zero_add _) fun q hq=>rfl,trivial⟩⟩,rfl,rfl⟩
theorem zp7 (g:Nat→Sht) (i j q:Nat):(bif Nat.beq q i then zbj (zW (g i)) 0 (zW (g j)) else zW (g q))=zW (if q=i then g j else g q):=by
 by_cases h:q=i
 ·subst h;rw [if_pos rfl,Nat.beq_refl];rfl
 ·rw [if_neg h,z0u h];rfl
theorem zmH {nb:Bool} {l:List Sht} {f:Nat} {id:Int} {p:Sht→Bool} (hf:∀ x,VP (sE r) f [.agg ((zW x).map .p),.p (.fp [.int .i64 id] 0)] (bv (p x))) (hn:l.length≤1000) :
  VC (sE r) [0] 126 [.acc nb 0 6 l.length,.fn f [] [.p (.fp [.int .i64 id] 0)]] [(0,.acc l.length 6 (fS l) 74)]
   (fun a L=>(z8q l p = -1∧a = .acc nb 0 6 l.length∧L=[(0,.acc l.length 6 (fS l) 74)]) ∨
    (¬ z8q l p = -1∧∃ G:Nat→List PV,(l.filter (fun x=>!p x)).length<l.length∧(∀ q,q<(l.filter (fun x=>!p x)).length→G q=zW ((l.filter (fun x=>!p x)).getD q default))∧a = .sl 0 6 0 (l.filter (fun x=>!p x)).length l.length 0∧L=[(0,.arr l.length 6 G 74)])):=by
 refine VC.of (fn:=Tryz.f126) za (zC rfl) (by kernel_rfl) rfl rfl ?_
 refine VSt.run za false [] 200 rfl trivial ?_
 refine z4q (Vw.trans (Vw.sub' (F0:=[(8,.acc nb 0 6 l.length),(9,.fn f [] [.p (.fp [.int .i64 id] 0)])]) (z5t (by repeat (first | exact z0d | refine z0x rfl ?_)))) (z1s 0 rfl rfl ⟨Nat.le_refl _,rfl⟩)) rfl rfl rfl rfl rfl rfl rfl (zmr (first:=[]) (cap:=[.p (.fp [.int .i64 id] 0)]) (p:=p) (by omega) rfl (fun _=>rfl) (fun x=>hf x)) rfl ?_
 refine VSt.run za false [] 200 rfl trivial ?_
 refine VSt.cond rfl (fun h=>?_) (fun h=>?_)
 ·have h:z8q l p = -1:=eq_of_beq h
  refine VSt.run za false [] 200 rfl trivial ?_
  exact ⟨rfl,_,[(0,0)],_,_,rfl,⟨rfl,rfl,z1B rfl rfl (AImp.refl _) zu,_,rfl,LImp.refl _⟩,.inl ⟨h,rfl,rfl⟩⟩
 have h:¬ z8q l p = -1:=ne_of_beq_false h
 refine Exists.elim ((z6u l p).resolve_left h) fun k0 hk0=>?_
 have hfst:=z6t hk0
 have i0:inR (Int.ofNat k0+1):=by unfold inR;simp only [Int.ofNat_eq_natCast];omega
 refine VSt.putC 5 (nv k0) rfl (z2d hk0) ?_
 refine VSt.run za false [] 200 rfl (i0) ?_
 refine VSt.loop (α :=Nat×Nat×(Nat→Sht)) (fun x F L=>DelInv l p x.1 x.2.1 x.2.2 ∧
   F=[(0,.acc nb 0 6 l.length),(1,.fn f [] [.p (.fp [.int .i64 id] 0)]),(5,nv x.2.1),(6,nv x.1)]∧L=[(0,.acc l.length 6 (fun q=>zW (x.2.2 q)) 74)]) (fun x=>l.length - x.1) (k0+1,k0,fun q=>l.getD q default) ?_ ⟨DelInv.start hfst,rfl,rfl⟩ ?_
 ·(refine Vw.sub' (z5t (by repeat (first | exact z0d | refine z0x rfl ?_))))
 rintro ⟨j,i,g⟩ F L ⟨hI,rfl,rfl⟩
 have hI:DelInv l p j i g:=hI
 have h1:=hI.le
 have h2:=hI.lt
 refine VSt.run za false [] 200 rfl trivial ?_
 refine VSt.cond rfl (fun hc=>?_) (fun hc=>?_)
 ·have hj:j<l.length:=by have:=of_decide_eq_true hc;simp only [Int.ofNat_eq_natCast] at this;omega
  have ij:inR (Int.ofNat j+1):=by unfold inR;simp only [Int.ofNat_eq_natCast];omega
  have ii:inR (Int.ofNat i+1):=by unfold inR;simp only [Int.ofNat_eq_natCast];omega
  have eg:g j=l.getD j default:=hI.rest j (Nat.le_refl _)
  refine VSt.run za false [] 200 rfl (⟨hj,rfl,hj,rfl⟩) ?_
  refine VSt.pc rfl rfl rfl rfl rfl rfl rfl rfl ((hf (g j))) ?_
  refine VSt.run za false [] 200 rfl trivial ?_
  refine VSt.cond rfl (fun hd=>?_) (fun hd=>?_)
  ·have hd:p (l.getD j default)=false:=by rw [←eg];exact (Bool.not_eq_true' _).mp hd
   refine VSt.run za false [] 200 rfl (⟨(show i<l.length by omega),rfl,(show i<l.length by omega),rfl,Nat.le_refl _,ii,ij⟩) ?_
   exact ⟨(j+1,i+1,fun q=>if q=i then g j else g q),_,_,Vw.trans (Vw.sub' (F0:=[(0,.acc nb 0 6 l.length),(1,.fn f [] [.p (.fp [.int .i64 id] 0)]),(5,nv (i+1)),(6,nv (j+1))]) (z5t (by repeat (first | exact z0d | refine z0x rfl ?_)))) (zN (ps:=[(0,0)]) (F0:=[(0,.acc nb 0 6 l.length),(1,.fn f [] [.p (.fp [.int .i64 id] 0)]),(5,nv (i+1)),(6,nv (j+1))]) (L0:=[(0,.acc l.length 6 (fun q=>zW (if q=i then g j else g q)) 74)]) ⟨rfl,rfl,(by repeat (first | exact zu | refine zq rfl rfl rfl ?_)),_,rfl,⟨rfl,BImp.acc rfl (fun q hq=>zp7 g i j q),trivial⟩⟩),⟨hI.keep hj hd,rfl,rfl⟩,by show l.length - (j+1)<l.length - j;omega⟩
  ·have hd:p (l.getD j default)=true:=by rw [←eg];exact (Bool.not_eq_false' _).mp hd
   refine VSt.run za false [] 200 rfl (ij) ?_
   exact ⟨(j+1,i,g),_,_,zN (ps:=[(0,0)]) (F0:=[(0,.acc nb 0 6 l.length),(1,.fn f [] [.p (.fp [.int .i64 id] 0)]),(5,nv i),(6,nv (j+1))]) (L0:=[(0,.acc l.length 6 (fun q=>zW (g q)) 74)]) ⟨rfl,rfl,(by repeat (first | exact zu | refine zq rfl rfl rfl ?_)),_,rfl,LImp.refl _⟩,⟨hI.skip hj hd,rfl,rfl⟩,by show l.length - (j+1)<l.length - j;omega⟩
 ·have hj:j=l.length:=by have:=of_decide_eq_false hc;simp only [Int.ofNat_eq_natCast] at this;omega
  subst hj
  have ha:=hI.all
  have hpos:0<l.length:=by omega
  have h1':i≤l.length:=Nat.le_of_lt h2
  refine zl (zN (ps:=[(0,0)]) (F0:=[(0,.sl 0 6 0 l.length l.length 0),(5,nv i)]) (L0:=[(0,.arr l.length 6 (fun q=>zW (g q)) 74)]) ⟨rfl,rfl,z1B rfl rfl (zg0 hpos rfl rfl) (zq rfl rfl rfl zu),_,rfl,⟨rfl,zdL hpos rfl (fun q hq=>rfl),trivial⟩⟩) ?_
  refine VSt.run za false [] 200 rfl (⟨h1',Nat.le_refl _,.inl h2,rfl,(by show 0+i+(l.length - i)≤l.length;omega),rfl,rfl,Nat.zero_le _,h1',.inr rfl,rfl⟩) ?_
  refine ⟨rfl,_,[(0,0)],_,_,rfl,⟨rfl,rfl,z1B rfl rfl (zkD (by omega) (by omega)) zu,_,rfl,LImp.refl _⟩,.inr ⟨h,_,by rw [←ha.1];exact h2,fun q hq=>?_,rfl,rfl⟩⟩
  rw [←ha.1] at hq
  show (bif Nat.ble (0+i) q&&Nat.blt q (0+i+(l.length - i)) then _ else zW (g q))=_
  rw [show Nat.ble (0+i) q=false from by rw [←Bool.not_eq_true];intro hb;have:=Nat.le_of_ble_eq_true hb;omega]
  rw [←ha.2 q hq];rfl
end Go.Proofs.YtdpipdniklognaaGreat
/- Walks: the sheets of a paper, the program's and the reference's. -/
set_option maxRecDepth 100000
namespace Go.Proofs.YtdpipdniklognaaGreat
variable {r:Rm}
theorem AImp.agg {cs ds:List AV} (h:AImps cs ds):AImp (.agg cs) (.agg ds):=fun E S Z j v hv=>by
 cases hv with
 | agg hs hv=>exact .agg hs (h.vrs hv)
theorem AImp.tup {cs ds:List AV} (h:AImps cs ds):AImp (.tup cs) (.tup ds):=fun E S Z j v hv=>by
 cases hv with
 | tup hv=>exact .tup (h.vrs hv)
theorem zfL (s:Sht) (p:Int):VP (sE r) 146 [.agg ((zW s).map .p),.p (.fp [.int .i64 p] 0)] (bv (!(s.paper==p))):=by
 refine VP.of (fn:=Tryz.f146) za (zC rfl) (by kernel_rfl) rfl rfl rfl ?_
 refine VSt.go za false [] 200 rfl AllP.n ?_
 exact EndsP.mk rfl rfl rfl rfl
theorem nnot {α : Type} (l:List α) (q : α → Bool):l.filter (fun x=>!!q x)=l.filter q:=by
 congr 1;funext x;cases q x <;> rfl
def zM (l:List Sht) (p:Int):List Sht:=l.filter fun s=>s.paper==p
theorem zji {b:Bool} {l m:List Sht} (hb:b=true→l=[]) (e:m=l):AImp (.p (.lst 74 (b&&Nat.beq l.length 0) l.length (fS l))) (.p (z0G b m)):=by
 subst e
 cases b with
 | true=>rw [hb rfl];exact AImp.refl _
 | false=>exact AImp.refl _
theorem zjh {b:Bool} {l m m':List Sht} {G:Nat→List PV} (hb:b=true→l=[]) (e:m'=m) (hm:m'.length<l.length) (hG:∀ q,q<m'.length→G q=zW (m'.getD q default)):AImp (.p (.lst 74 false m'.length fun k=>G (0+k))) (.p (z0G b m)):=by
 subst e
 cases b with
 | true=>rw [hb rfl] at hm;exact absurd hm (Nat.not_lt_zero _)
 | false=>exact AImp.lst fun k hk=>by rw [Nat.zero_add];exact hG k hk
theorem zcb {h:Hp} {p:Int} (hz:SzH h) (hn:h.st.length≤1000):VP (sE r) 107 [.agg ((eHp h).map .p),iv p] (.p (z0G h.stB (zM h.st p))):=by
 refine VP.of (fn:=Tryz.f107) za (zC rfl) (by kernel_rfl) rfl rfl rfl ?_
 refine VSt.go za false [] 200 rfl AllP.n ?_
 refine zf (z00 0 (eHp h) rfl rfl) ?_
 refine zf (z00 1 [.int .i64 p] rfl rfl) ?_
 refine VSt.cc [] rfl rfl rfl rfl rfl rfl rfl rfl rfl rfl rfl (zio hz.stN (by omega)) ?_
 rintro a L' ⟨rfl,rfl⟩
 refine VSt.go za false [] 200 rfl AllP.n ?_
 refine VSt.cc [(0,0)] rfl rfl rfl rfl rfl rfl rfl rfl rfl rfl rfl (zmH (f:=146) (id:=p) (p:=fun s=>!(s.paper==p)) (fun x=>zfL x p) hn) ?_
 rintro a L' (⟨g,rfl,rfl⟩ | ⟨g,G,hm,hG,rfl,rfl⟩)
 ·refine zf (Vw.kp [9] [(0,0)] rfl) ?_
  refine zf (z1s 0 rfl rfl ⟨Nat.le_refl _,rfl⟩) ?_
  refine z06 9 (.p (z0G h.stB (zM h.st p))) rfl (zji hz.stN (by have:=zam g;rw [nnot] at this;exact this)) ?_
  refine VSt.go za false [] 200 rfl AllP.n ?_
  exact EndsP.mk rfl rfl rfl rfl
 ·have hm':=Nat.le_of_lt hm
  refine zf (Vw.kp [9] [(0,0)] rfl) ?_
  refine zf (Vw.freeze 0 rfl rfl ⟨by rw [Nat.zero_add];exact hm',hm',rfl⟩) ?_
  refine z06 9 (.p (z0G h.stB (zM h.st p))) rfl (zjh hz.stN (nnot _ _) hm hG) ?_
  refine VSt.go za false [] 200 rfl AllP.n ?_
  exact EndsP.mk rfl rfl rfl rfl
theorem zeu {α β : Type} [Inhabited α] {l:List α} {f : α → β} {k:Nat} (h:k<l.length):(l.take (k+1)).map f=(l.take k).map f++[f (l.getD k default)]:=by
 rw [z6f l h,List.map_append];rfl
noncomputable def ppE (h:Hp) (p:Int):Int:=if ckH h=0 then (bif wth p 1 999 then 0 else 1) else 51
theorem zlg (h:Hp):(OkH h∧ckH h=0)∨(¬ OkH h∧ckH h=51):=by
 unfold ckH
 by_cases c:OkH h
 ·exact .inl ⟨c,if_pos c⟩
 ·exact .inr ⟨c,if_neg c⟩
theorem zkN {h:Hp} {p:Int} (e:ckH h=51):ppE h p=51:=if_neg (by rw [e];decide)
theorem zkO {h:Hp} {p:Int} (e:ckH h=0) (g:wth p 1 999=false):ppE h p=1:=by unfold ppE;rw [if_pos e,g];rfl
theorem zh1 {h:Hp} {p:Int} (e:ckH h=0) (g:wth p 1 999=true):ppE h p=0:=by unfold ppE;rw [if_pos e,g];rfl
theorem z4x {h:Hp} {p:Int} (hz:SzH h):VP (sE r) 72 [.agg ((eHp h).map .p),iv p] (iv (ppE h p)):=by
 have hc:=zkj (r:=r) hz
 refine VP.of (fn:=Tryz.f72) za (zC rfl) (by kernel_rfl) rfl rfl rfl ?_
 refine VSt.go za false [] 200 rfl AllP.n ?_
 rcases zlg h with ⟨_,e⟩ | ⟨_,e⟩ <;> rw [e] at hc
 ·refine VSt.pc rfl rfl rfl rfl rfl rfl rfl rfl (hc) ?_
  refine VSt.go za false [] 200 rfl AllP.n ?_
  refine VSt.cond rfl (fun q=>absurd q (by decide)) (fun _=>?_)
  refine VSt.go za false [] 200 rfl AllP.n ?_
  refine VSt.pc rfl rfl rfl rfl rfl rfl rfl rfl ((z9o p)) ?_
  refine VSt.go za false [] 200 rfl AllP.n ?_
  refine VSt.cond rfl (fun q=>?_) (fun q=>?_)
  ·refine VSt.go za false [] 200 rfl AllP.n ?_
   refine EndsP.mk rfl rfl rfl ?_
   rw [zkO e (nt q)];rfl
  ·refine VSt.go za false [] 200 rfl AllP.n ?_
   refine EndsP.mk rfl rfl rfl ?_
   rw [zh1 e (nf q)];rfl
 ·refine VSt.pc rfl rfl rfl rfl rfl rfl rfl rfl (hc) ?_
  refine VSt.go za false [] 200 rfl AllP.n ?_
  refine VSt.cond rfl (fun _=>?_) (fun q=>absurd q (by decide))
  refine VSt.go za false [] 200 rfl AllP.n ?_
  refine EndsP.mk rfl rfl rfl ?_
  rw [zkN e];rfl
theorem z5z (h:Hp) (p:Int):(OkH h∧ppE h p=0)∨((!(ppE h p==0))=true):=by
 rcases zlg h with ⟨c,e⟩ | ⟨_,e⟩
 ·by_cases g:wth p 1 999=true
  ·exact .inl ⟨c,zh1 e g⟩
  ·rw [zkO e (by simpa using g)];exact .inr rfl
 ·rw [zkN e];exact .inr rfl
theorem zcV {h:Hp} {p:Int} (e:(!(ppE h p==0))=true):¬ ppE h p=0:=fun g=>by rw [g] at e;cases e
end Go.Proofs.YtdpipdniklognaaGreat
/- Walks: the sheets that are asked for; which one is sewn to which; which may follow. -/
set_option maxRecDepth 100000
namespace Go.Proofs.YtdpipdniklognaaGreat
variable {r:Rm}
theorem zaL (l:List Sht) (y:Sht) (ps:List PV) (hp:ps=zW y) (q:Nat) (hq:q<l.length+1):(bif Nat.blt q l.length then fS l q else (ps.drop ((q - l.length)*6)).take 6)=fS (l++[y]) q:=by
 subst hp
 unfold fS zo
 by_cases e:q<l.length
 ·rw [zfO e]
  simp only [cond_true,List.getD_eq_getElem?_getD]
  rw [List.getElem?_append_left e]
 ·have:q=l.length:=by omega
  subst this
  rw [ziA e,Nat.sub_self]
  simp only [cond_false,List.getD_eq_getElem?_getD]
  rw [List.getElem?_append_right (Nat.le_refl _),Nat.sub_self];rfl
theorem zmZ (l:List Sew) (y:Sew) (ps:List PV) (hp:ps=zj3 y) (q:Nat) (hq:q<l.length+1):(bif Nat.blt q l.length then fW l q else (ps.drop ((q - l.length)*2)).take 2)=fW (l++[y]) q:=by
 subst hp
 unfold fW zP
 by_cases e:q<l.length
 ·rw [zfO e]
  simp only [cond_true,List.getD_eq_getElem?_getD]
  rw [List.getElem?_append_left e]
 ·have:q=l.length:=by omega
  subst this
  rw [ziA e,Nat.sub_self]
  simp only [cond_false,List.getD_eq_getElem?_getD]
  rw [List.getElem?_append_right (Nat.le_refl _),Nat.sub_self];rfl
def eLS (l:List Sht):PV:=z0G l.isEmpty l
theorem zn5 {l:List Sht} {n:Nat} (hn:n=l.length):(AV.p (.lst 74 (true&&Nat.beq n 0) n (fS l))) = .p (eLS l):=by
 subst hn
 cases l <;> rfl
def eLW (l:List Sew):PV:=z3J l.isEmpty l
theorem zn4 {l:List Sew} {n:Nat} (hn:n=l.length):(AV.p (.lst 58 (true&&Nat.beq n 0) n (fW l))) = .p (eLW l):=by
 subst hn
 cases l <;> rfl
end Go.Proofs.YtdpipdniklognaaGreat
/- Walks: a heap without a sheet, the program's. -/
set_option maxRecDepth 100000
namespace Go.Proofs.YtdpipdniklognaaGreat
variable {r:Rm}
end Go.Proofs.YtdpipdniklognaaGreat
/- Walks: Without, the program's and the reference's. -/
set_option maxRecDepth 100000
namespace Go.Proofs.YtdpipdniklognaaGreat
variable {r:Rm}
end Go.Proofs.YtdpipdniklognaaGreat
/- Walks: Follows of the program. -/
set_option maxRecDepth 100000
namespace Go.Proofs.YtdpipdniklognaaGreat
variable {r:Rm}
def toK (w:List Sew) (id:Int):Nat→Int
 | 0=>0
 | k+1=>bif (zP w k).fro==id then (zP w k).too else toK w id k
def frK (w:List Sew) (id:Int):Nat→Int
 | 0=>0
 | k+1=>bif (zP w k).too==id then (zP w k).fro else frK w id k
def toS (h:Hp) (id:Int):Int:=toK h.sw id h.sw.length
def frS (h:Hp) (id:Int):Int:=frK h.sw id h.sw.length
theorem z9X {h:Hp} {id:Int} (hn:h.sw.length<9223372036854775808):VP (sE r) 112 [.agg ((eHp h).map .p),iv id] (.tup [iv (toS h id),iv (frS h id)]):=by
 refine VP.of (fn:=Tryz.f112) za (zC rfl) (by kernel_rfl) rfl rfl rfl ?_
 refine VSt.go za false [] 200 rfl AllP.n ?_
 refine zl (z00 0 (eHp h) rfl rfl) ?_
 refine z0r za h.sw.length hn [1,9] (fun k=>[(4,iv (toK h.sw id k)),(5,iv (frK h.sw id k))]) (fun _=>[]) (fun _=>True) rfl rfl rfl (fun _=>rfl) rfl rfl (z2R rfl (AImp.refl _) (z2R rfl (AImp.refl _) z1k)) trivial trivial (fun k hk _=>?_) (fun _=>?_)
 ·refine VSt.go za false [] 200 rfl (AllP.c ‹_› (AllP.c rfl AllP.n)) ?_
  refine VSt.cond rfl (fun h1=>?x1) (fun h1=>?x2)
  case' x1 =>
   have e1:toK h.sw id (k+1)=(zP h.sw k).too:=by
    show (bif (zP h.sw k).fro==id then _ else _)=_
    rw [show ((zP h.sw k).fro==id)=true from h1];rfl
  case' x2 =>
   have e1:toK h.sw id (k+1)=toK h.sw id k:=by
    show (bif (zP h.sw k).fro==id then _ else _)=_
    rw [show ((zP h.sw k).fro==id)=false from h1];rfl
  all_goals
   refine VSt.go za false [] 200 rfl AllP.n ?_
   refine VSt.cond rfl (fun h2=>?_) (fun h2=>?_)
   ·have e2:frK h.sw id (k+1)=(zP h.sw k).fro:=by
     show (bif (zP h.sw k).too==id then _ else _)=_
     rw [show ((zP h.sw k).too==id)=true from h2];rfl
    refine VSt.go za false [] 200 rfl AllP.n ?_
    refine ⟨?_,trivial⟩
    dsimp only
    rw [e1,e2]
    (refine Vw.drop (by repeat (first | exact zu | refine zq rfl rfl rfl ?_ | refine z0o rfl ‹_› (z07 _ ‹_›) ?_)))
   ·have e2:frK h.sw id (k+1)=frK h.sw id k:=by
     show (bif (zP h.sw k).too==id then _ else _)=_
     rw [show ((zP h.sw k).too==id)=false from h2];rfl
    refine VSt.go za false [] 200 rfl AllP.n ?_
    refine ⟨?_,trivial⟩
    dsimp only
    rw [e1,e2]
    (refine Vw.drop (by repeat (first | exact zu | refine zq rfl rfl rfl ?_ | refine z0o rfl ‹_› (z07 _ ‹_›) ?_)))
 ·refine VSt.go za false [] 200 rfl AllP.n ?_
  exact EndsP.mk rfl rfl rfl rfl
def zht (h:Hp) (a b:Sht):Bool:=(a.catch_==b.first||(a.catch_==0||b.first==0))&&((toS h a.id==0||toS h a.id==b.id)&&(frS h b.id==0||frS h b.id==a.id))
theorem z3M {h:Hp} {a b:Sht} (h1:(a.catch_==b.first||(a.catch_==0||b.first==0))=true) (h2:(toS h a.id==0||toS h a.id==b.id)=true):zht h a b=(frS h b.id==0||frS h b.id==a.id):=by
 unfold zht;rw [h1,h2];rfl
theorem zmg {h:Hp} {a b:Sht} (h1:(a.catch_==b.first||(a.catch_==0||b.first==0))=false):zht h a b=false:=by
 unfold zht;rw [h1];rfl
theorem zdb {h:Hp} {a b:Sht} (h1:(toS h a.id==0||toS h a.id==b.id)=false):zht h a b=false:=by
 unfold zht;rw [h1];cases (a.catch_==b.first||(a.catch_==0||b.first==0)) <;> rfl
set_option maxHeartbeats 4000000 in
theorem zo1 {h:Hp} {a b:Sht} (hn:h.sw.length<9223372036854775808):VP (sE r) 113 [.agg ((eHp h).map .p),.agg ((zW a).map .p),.agg ((zW b).map .p)] (bv (zht h a b)):=by
 have s1:=z9X (r:=r) (h:=h) (id:=a.id) hn
 have s2:=z9X (r:=r) (h:=h) (id:=b.id) hn
 refine VP.of (fn:=Tryz.f113) za (zC rfl) (by kernel_rfl) rfl rfl rfl ?_
 refine VSt.go za false [] 200 rfl AllP.n ?_
 refine zf (z00 0 (eHp h) rfl rfl) ?_
 refine zf (z00 1 (zW a) rfl rfl) ?_
 refine zf (z00 2 (zW b) rfl rfl) ?_
 refine VSt.pc rfl rfl rfl rfl rfl rfl rfl rfl (s1) ?_
 refine VSt.go za false [] 200 rfl AllP.n ?_
 refine VSt.pc rfl rfl rfl rfl rfl rfl rfl rfl (s2) ?_
 refine VSt.go za false [] 200 rfl AllP.n ?_
 refine zg 30 rfl (fun hA=>?_) (fun hA=>?_)
 ·have h40:(a.catch_==b.first||(a.catch_==0||b.first==0))=true:=by rw [show (a.catch_==b.first)=true from hA];rfl
  refine VSt.go za false [] 200 rfl AllP.n ?_
  refine zg 43 rfl (fun d1=>?_) (fun d1=>?_)
  ·have d2:(toS h a.id==0||toS h a.id==b.id)=true:=by rw [show (toS h a.id==0)=true from d1];rfl
   refine VSt.go za false [] 200 rfl AllP.n ?_
   refine zg 53 rfl (fun f1=>?_) (fun f1=>?_)
   ·refine VSt.go za false [] 200 rfl AllP.n ?_
    refine EndsP.mk rfl rfl rfl ?_
    show bv _=bv _
    rw [z3M h40 d2,show (frS h b.id==0)=true from f1];rfl
   ·refine VSt.go za false [] 200 rfl AllP.n ?_
    refine EndsP.mk rfl rfl rfl ?_
    show bv _=bv _
    rw [z3M h40 d2,show (frS h b.id==0)=false from f1];rfl
  ·refine VSt.go za false [] 200 rfl AllP.n ?_
   refine zg 50 rfl (fun e1=>?_) (fun e1=>?_)
   ·have d2:(toS h a.id==0||toS h a.id==b.id)=true:=by rw [show (toS h a.id==0)=false from d1,show (toS h a.id==b.id)=true from e1];rfl
    refine VSt.go za false [] 200 rfl AllP.n ?_
    refine zg 53 rfl (fun f1=>?_) (fun f1=>?_)
    ·refine VSt.go za false [] 200 rfl AllP.n ?_
     refine EndsP.mk rfl rfl rfl ?_
     show bv _=bv _
     rw [z3M h40 d2,show (frS h b.id==0)=true from f1];rfl
    ·refine VSt.go za false [] 200 rfl AllP.n ?_
     refine EndsP.mk rfl rfl rfl ?_
     show bv _=bv _
     rw [z3M h40 d2,show (frS h b.id==0)=false from f1];rfl
   ·refine VSt.go za false [] 200 rfl AllP.n ?_
    refine EndsP.mk rfl rfl rfl ?_
    show bv _=bv _
    rw [zdb (by rw [show (toS h a.id==0)=false from d1,show (toS h a.id==b.id)=false from e1];rfl)]
 refine VSt.go za false [] 200 rfl AllP.n ?_
 refine zg 35 rfl (fun hB=>?_) (fun hB=>?_)
 ·have h40:(a.catch_==b.first||(a.catch_==0||b.first==0))=true:=by rw [show (a.catch_==b.first)=false from hA,show (a.catch_==0)=true from hB];rfl
  refine VSt.go za false [] 200 rfl AllP.n ?_
  refine zg 43 rfl (fun d1=>?_) (fun d1=>?_)
  ·have d2:(toS h a.id==0||toS h a.id==b.id)=true:=by rw [show (toS h a.id==0)=true from d1];rfl
   refine VSt.go za false [] 200 rfl AllP.n ?_
   refine zg 53 rfl (fun f1=>?_) (fun f1=>?_)
   ·refine VSt.go za false [] 200 rfl AllP.n ?_
    refine EndsP.mk rfl rfl rfl ?_
    show bv _=bv _
    rw [z3M h40 d2,show (frS h b.id==0)=true from f1];rfl
   ·refine VSt.go za false [] 200 rfl AllP.n ?_
    refine EndsP.mk rfl rfl rfl ?_
    show bv _=bv _
    rw [z3M h40 d2,show (frS h b.id==0)=false from f1];rfl
  ·refine VSt.go za false [] 200 rfl AllP.n ?_
   refine zg 50 rfl (fun e1=>?_) (fun e1=>?_)
   ·have d2:(toS h a.id==0||toS h a.id==b.id)=true:=by rw [show (toS h a.id==0)=false from d1,show (toS h a.id==b.id)=true from e1];rfl
    refine VSt.go za false [] 200 rfl AllP.n ?_
    refine zg 53 rfl (fun f1=>?_) (fun f1=>?_)
    ·refine VSt.go za false [] 200 rfl AllP.n ?_
     refine EndsP.mk rfl rfl rfl ?_
     show bv _=bv _
     rw [z3M h40 d2,show (frS h b.id==0)=true from f1];rfl
    ·refine VSt.go za false [] 200 rfl AllP.n ?_
     refine EndsP.mk rfl rfl rfl ?_
     show bv _=bv _
     rw [z3M h40 d2,show (frS h b.id==0)=false from f1];rfl
   ·refine VSt.go za false [] 200 rfl AllP.n ?_
    refine EndsP.mk rfl rfl rfl ?_
    show bv _=bv _
    rw [zdb (by rw [show (toS h a.id==0)=false from d1,show (toS h a.id==b.id)=false from e1];rfl)]
 refine VSt.go za false [] 200 rfl AllP.n ?_
 refine zg 40 rfl (fun hC=>?_) (fun hC=>?_)
 ·have h40:(a.catch_==b.first||(a.catch_==0||b.first==0))=true:=by rw [show (a.catch_==b.first)=false from hA,show (a.catch_==0)=false from hB,show (b.first==0)=true from hC];rfl
  refine VSt.go za false [] 200 rfl AllP.n ?_
  refine zg 43 rfl (fun d1=>?_) (fun d1=>?_)
  ·have d2:(toS h a.id==0||toS h a.id==b.id)=true:=by rw [show (toS h a.id==0)=true from d1];rfl
   refine VSt.go za false [] 200 rfl AllP.n ?_
   refine zg 53 rfl (fun f1=>?_) (fun f1=>?_)
   ·refine VSt.go za false [] 200 rfl AllP.n ?_
    refine EndsP.mk rfl rfl rfl ?_
    show bv _=bv _
    rw [z3M h40 d2,show (frS h b.id==0)=true from f1];rfl
   ·refine VSt.go za false [] 200 rfl AllP.n ?_
    refine EndsP.mk rfl rfl rfl ?_
    show bv _=bv _
    rw [z3M h40 d2,show (frS h b.id==0)=false from f1];rfl
  ·refine VSt.go za false [] 200 rfl AllP.n ?_
   refine zg 50 rfl (fun e1=>?_) (fun e1=>?_)
   ·have d2:(toS h a.id==0||toS h a.id==b.id)=true:=by rw [show (toS h a.id==0)=false from d1,show (toS h a.id==b.id)=true from e1];rfl
    refine VSt.go za false [] 200 rfl AllP.n ?_
    refine zg 53 rfl (fun f1=>?_) (fun f1=>?_)
    ·refine VSt.go za false [] 200 rfl AllP.n ?_
     refine EndsP.mk rfl rfl rfl ?_
     show bv _=bv _
     rw [z3M h40 d2,show (frS h b.id==0)=true from f1];rfl
    ·refine VSt.go za false [] 200 rfl AllP.n ?_
     refine EndsP.mk rfl rfl rfl ?_
     show bv _=bv _
     rw [z3M h40 d2,show (frS h b.id==0)=false from f1];rfl
   ·refine VSt.go za false [] 200 rfl AllP.n ?_
    refine EndsP.mk rfl rfl rfl ?_
    show bv _=bv _
    rw [zdb (by rw [show (toS h a.id==0)=false from d1,show (toS h a.id==b.id)=false from e1];rfl)]
 refine VSt.go za false [] 200 rfl AllP.n ?_
 refine EndsP.mk rfl rfl rfl ?_
 show bv _=bv _
 rw [zmg (by rw [show (a.catch_==b.first)=false from hA,show (a.catch_==0)=false from hB,show (b.first==0)=false from hC];rfl)]
end Go.Proofs.YtdpipdniklognaaGreat
/- Walks: Follows of both sides. -/
set_option maxRecDepth 100000
namespace Go.Proofs.YtdpipdniklognaaGreat
variable {r:Rm}
def zoZ (h:Hp) (x y:Sht):Bool:=h.sw.all fun t=>(t.fro==x.id)==(t.too==y.id)
def zp3 (h:Hp) (i k:Nat) (x y:Sht):Bool:=!(i==k||(!(x.paper==y.paper)||(!(x.catch_==y.first)&&(!(x.catch_==0) && !(y.first==0)))))&&zoZ h x y
end Go.Proofs.YtdpipdniklognaaGreat
/- Walks: the reference's Follows; both answer the same. -/
set_option maxRecDepth 100000
namespace Go.Proofs.YtdpipdniklognaaGreat
variable {r:Rm}
theorem z5Y {b:Bool}:AImp (.lit b) (bv b):=fun _ _ _ _ _ h=>by
 cases h;exact .p (.bool _)
theorem OkH.pos {h:Hp} (n:OkH h) {j:Nat} (hj:j<h.sw.length):1≤(zP h.sw j).fro∧1≤(zP h.sw j).too:=by
 obtain ⟨a,b,ha,hb,e1,e2,_⟩:=n.sewn j hj
 have h1:=(wth_iff.1 (n.ok a ha).id).1
 have h2:=(wth_iff.1 (n.ok b hb).id).1
 exact ⟨by rw [←e1];exact h1,by rw [←e2];exact h2⟩
end Go.Proofs.YtdpipdniklognaaGreat
/- Walks: Found of the program. -/
set_option maxRecDepth 100000
namespace Go.Proofs.YtdpipdniklognaaGreat
variable {r:Rm}
theorem zoL (l:List Sht) (p:Int):(zM l p).length=cnt l p:=rfl
end Go.Proofs.YtdpipdniklognaaGreat
/- Walks: Found of the reference. -/
set_option maxRecDepth 100000
namespace Go.Proofs.YtdpipdniklognaaGreat
variable {r:Rm}
theorem z4c {ty n:Nat} {f g:Nat→List PV} (h:∀ k,g k=f k):AImp (.p (.lst ty false (0+n) fun k=>g (0+k))) (.p (.lst ty false n f)):=by
 rw [Nat.zero_add];exact AImp.lst fun k _=>by rw [Nat.zero_add,h]
theorem z5C {ty n:Nat} {f g:Nat→List PV} (h:n=0):AImp (.p (.lst ty false 0 g)) (.p (.lst ty false n f)):=by
 subst h;exact AImp.lst fun k hk=>absurd hk (Nat.not_lt_zero k)
set_option maxHeartbeats 8000000 in
theorem znb {h:Hp} (hn:h.st.length≤1000) (hm:h.sw.length≤1000):VP (sE r) 103 [.agg ((eHp h).map .p)] (.agg [.p (z0G false h.st),.p (z3J false h.sw)]):=by
 refine VP.of (fn:=Tryz.f103) za (zC rfl) (by kernel_rfl) rfl rfl rfl ?_
 by_cases h0:h.st.length=0 <;> by_cases h1:h.sw.length=0
 ·refine VSt.go za true [7] 200 rfl (AllP.c ‹_› AllP.n) ?_
  refine VSt.go za true [11] 200 rfl (AllP.c ‹_› AllP.n) ?_
  refine VSt.go za false [] 4 rfl (by (repeat (first | exact AllP.n | refine AllP.c (by first | assumption | rfl | omega | exact Nat.le_refl _ | (show 0<_;omega) | (show 1<_;omega) | (show 2<_;omega) | (show 3<_;omega) | (intro _ _;rfl) | (intro q hq;match q,hq with | 0,_=>rfl) | (unfold inR;(try simp only [Int.ofNat_eq_natCast]);omega)) ?_))) ?_
  refine zl (Vw.kp [2] [(1,1),(2,2),(3,3)] rfl) ?_
  refine zl (Vw.freeze 2 rfl rfl ⟨Nat.le_refl _,Nat.le_refl _,rfl⟩) ?_
  refine zl (Vw.freeze 3 rfl rfl ⟨Nat.le_refl _,Nat.le_refl _,rfl⟩) ?_
  refine VSt.go za false [] 200 rfl AllP.n ?_
  refine ⟨rfl,_,rfl,rfl,?_⟩
  exact AImp.agg ⟨z5C h0,z5C h1,trivial⟩
 ·have k1:0<h.sw.length:=by omega
  refine VSt.go za true [7] 200 rfl (AllP.c ‹_› AllP.n) ?_
  refine VSt.go za false [11] 200 rfl (AllP.c ‹_› (AllP.c (by omega) (AllP.c (fun _ _=>rfl) (AllP.c rfl (AllP.c rfl (AllP.c (by omega) (AllP.c (by omega) AllP.n))))))) ?_
  refine VSt.go za false [] 4 rfl (by (repeat (first | exact AllP.n | refine AllP.c (by first | assumption | rfl | omega | exact Nat.le_refl _ | (show 0<_;omega) | (show 1<_;omega) | (show 2<_;omega) | (show 3<_;omega) | (intro _ _;rfl) | (intro q hq;match q,hq with | 0,_=>rfl) | (unfold inR;(try simp only [Int.ofNat_eq_natCast]);omega)) ?_))) ?_
  refine zl (Vw.kp [2] [(1,1),(2,2),(4,4)] rfl) ?_
  refine zl (Vw.freeze 2 rfl rfl ⟨Nat.le_refl _,Nat.le_refl _,rfl⟩) ?_
  refine zl (Vw.freeze 4 rfl rfl ⟨Nat.le_of_eq (Nat.zero_add _),Nat.le_refl _,rfl⟩) ?_
  refine VSt.go za false [] 200 rfl AllP.n ?_
  refine ⟨rfl,_,rfl,rfl,?_⟩
  exact AImp.agg ⟨z5C h0,z4c (g:=fun i=>bif i.blt 0 then (fun _=>[]) (0+i) else fW h.sw (i - 0)) (fun _=>rfl),trivial⟩
 ·have k0:0<h.st.length:=by omega
  refine VSt.go za false [7] 200 rfl (AllP.c ‹_› (AllP.c (by omega) (AllP.c (fun _ _=>rfl) (AllP.c rfl (AllP.c rfl (AllP.c (by omega) (AllP.c (by omega) AllP.n))))))) ?_
  refine VSt.go za true [11] 200 rfl (AllP.c ‹_› AllP.n) ?_
  refine VSt.go za false [] 4 rfl (by (repeat (first | exact AllP.n | refine AllP.c (by first | assumption | rfl | omega | exact Nat.le_refl _ | (show 0<_;omega) | (show 1<_;omega) | (show 2<_;omega) | (show 3<_;omega) | (intro _ _;rfl) | (intro q hq;match q,hq with | 0,_=>rfl) | (unfold inR;(try simp only [Int.ofNat_eq_natCast]);omega)) ?_))) ?_
  refine zl (Vw.kp [2] [(1,1),(3,3),(4,4)] rfl) ?_
  refine zl (Vw.freeze 3 rfl rfl ⟨Nat.le_of_eq (Nat.zero_add _),Nat.le_refl _,rfl⟩) ?_
  refine zl (Vw.freeze 4 rfl rfl ⟨Nat.le_refl _,Nat.le_refl _,rfl⟩) ?_
  refine VSt.go za false [] 200 rfl AllP.n ?_
  refine ⟨rfl,_,rfl,rfl,?_⟩
  exact AImp.agg ⟨z4c (g:=fun i=>bif i.blt 0 then (fun _=>[]) (0+i) else fS h.st (i - 0)) (fun _=>rfl),z5C h1,trivial⟩
 ·have k0:0<h.st.length:=by omega
  have k1:0<h.sw.length:=by omega
  refine VSt.go za false [7] 200 rfl (AllP.c ‹_› (AllP.c (by omega) (AllP.c (fun _ _=>rfl) (AllP.c rfl (AllP.c rfl (AllP.c (by omega) (AllP.c (by omega) AllP.n))))))) ?_
  refine VSt.go za false [11] 200 rfl (AllP.c ‹_› (AllP.c (by omega) (AllP.c (fun _ _=>rfl) (AllP.c rfl (AllP.c rfl (AllP.c (by omega) (AllP.c (by omega) AllP.n))))))) ?_
  refine VSt.go za false [] 4 rfl (by (repeat (first | exact AllP.n | refine AllP.c (by first | assumption | rfl | omega | exact Nat.le_refl _ | (show 0<_;omega) | (show 1<_;omega) | (show 2<_;omega) | (show 3<_;omega) | (intro _ _;rfl) | (intro q hq;match q,hq with | 0,_=>rfl) | (unfold inR;(try simp only [Int.ofNat_eq_natCast]);omega)) ?_))) ?_
  refine zl (Vw.kp [2] [(1,1),(3,3),(5,5)] rfl) ?_
  refine zl (Vw.freeze 3 rfl rfl ⟨Nat.le_of_eq (Nat.zero_add _),Nat.le_refl _,rfl⟩) ?_
  refine zl (Vw.freeze 5 rfl rfl ⟨Nat.le_of_eq (Nat.zero_add _),Nat.le_refl _,rfl⟩) ?_
  refine VSt.go za false [] 200 rfl AllP.n ?_
  refine ⟨rfl,_,rfl,rfl,?_⟩
  exact AImp.agg ⟨z4c (g:=fun i=>bif i.blt 0 then (fun _=>[]) (0+i) else fS h.st (i - 0)) (fun _=>rfl),z4c (g:=fun i=>bif i.blt 0 then (fun _=>[]) (0+i) else fW h.sw (i - 0)) (fun _=>rfl),trivial⟩
end Go.Proofs.YtdpipdniklognaaGreat
/- Plain: what the reference's Found puts in is what the program's does; walks: Same, SamePairs, SameHeap of equal ones. -/
set_option maxRecDepth 100000
namespace Go.Proofs.YtdpipdniklognaaGreat
variable {r:Rm}
end Go.Proofs.YtdpipdniklognaaGreat
/- Sets of holes by bits; the orders of sheets by words and threads. -/
set_option maxRecDepth 100000
namespace Go.Proofs.YtdpipdniklognaaGreat
variable {r:Rm}
theorem zhR {m k:Nat} (hk:k<64) (hm:m<9223372036854775808):VP (sE r) 142 [iv (Int.ofNat m),nv k] (bv (m.testBit k)):=by
 refine VP.of (fn:=Tryz.f142) za (zC rfl) (by kernel_rfl) rfl rfl rfl ?_
 have h1:m >>> k<9223372036854775808:=by
  rw [Nat.shiftRight_eq_div_pow];exact Nat.lt_of_le_of_lt (Nat.div_le_self _ _) hm
 refine VSt.go za false [] 200 rfl ((AllP.c hk (AllP.c h1 (AllP.c (by decide) AllP.n)))) ?_
 refine EndsP.mk rfl rfl rfl ?_
 show bv _=bv _
 congr 1
 rw [Nat.testBit_eq_decide_div_mod_eq,Nat.shiftRight_eq_div_pow,Nat.and_one_is_mod,Bool.eq_iff_iff,beq_iff_eq,decide_eq_true_iff]
 simp only [Int.ofNat_eq_natCast]
 omega
theorem zcz {m k:Nat} (hk:k<62) (hm:m<9223372036854775808):VP (sE r) 136 [iv (Int.ofNat m),nv k] (iv (Int.ofNat (m ||| 1 <<< k))):=by
 refine VP.of (fn:=Tryz.f136) za (zC rfl) (by kernel_rfl) rfl rfl rfl ?_
 have h1:1 <<< k<9223372036854775808:=by
  rw [Nat.one_shiftLeft];exact Nat.lt_of_lt_of_le (Nat.pow_lt_pow_right (by decide) hk) (by decide)
 refine VSt.go za false [] 200 rfl ((AllP.c (show k<64 by omega) (AllP.c h1 (AllP.c hm (AllP.c h1 AllP.n))))) ?_
 exact EndsP.mk rfl rfl rfl rfl
def z7c:List Nat→Nat
 | []=>0
 | i::l=>z7c l ||| 1 <<< i
theorem zcJ:∀ (l:List Nat) (k:Nat),(z7c l).testBit k=l.contains k
 | [],k=>by show (0:Nat).testBit k=_;rw [Nat.zero_testBit];rfl
 | i::l,k=>by
  show (z7c l ||| 1 <<< i).testBit k=_
  rw [Nat.testBit_or,zcJ l k,Nat.one_shiftLeft,Nat.testBit_two_pow,List.contains_cons,Bool.or_comm]
  congr 1
  rw [Bool.eq_iff_iff,decide_eq_true_iff,beq_iff_eq];exact eq_comm
theorem zgw:∀ {l:List Nat},(∀ i∈l,i<60)→z7c l<1152921504606846976
 | [],_=>by decide
 | i::l,h=>by
  show z7c l ||| 1 <<< i<2 ^ 60
  refine Nat.or_lt_two_pow (zgw fun k hk=>h k (List.mem_cons_of_mem _ hk)) ?_
  rw [Nat.one_shiftLeft]
  exact Nat.pow_lt_pow_right (by decide) (h i (List.mem_cons_self ..))
theorem zgv {l:List Nat} {k:Nat} (h:l.contains k=false):(z7c l ||| 1 <<< k) ^^^ ((z7c l ||| 1 <<< k) &&& 1 <<< k)=z7c l:=by
 refine Nat.eq_of_testBit_eq fun i=>?_
 rw [Nat.testBit_xor,Nat.testBit_and,Nat.testBit_or,Nat.one_shiftLeft,Nat.testBit_two_pow]
 by_cases e:k=i
 ·subst e
  rw [zcJ,h,decide_eq_true rfl];rfl
 ·rw [decide_eq_false e];cases (z7c l).testBit i <;> rfl
def okR (h:Hp) (l:List Sht) (row:List Nat) (i:Nat):Bool:=!row.contains i&&match row with
 | []=>frS h (zo l i).id==0
 | j::_=>zht h (zo l j) (zo l i)
def z8Q (h:Hp) (l:List Sht):Nat→List Nat→List (List Nat)
 | 0,row=>[row]
 | f+1,row=>(List.range l.length).flatMap fun i=>bif okR h l row i then z8Q h l f (i::row) else []
def zas (h:Hp) (l:List Sht) (f:Nat) (row:List Nat):Nat→List (List Nat)
 | 0=>[]
 | k+1=>zas h l f row k++bif okR h l row k then z8Q h l f (k::row) else []
theorem zfD {α : Type} (g:Nat→List α):∀ n,(List.range (n+1)).flatMap g=(List.range n).flatMap g++g n:=fun n=>by
 rw [List.range_succ,List.flatMap_append];simp
theorem zeJ {h:Hp} {l:List Sht} {f:Nat} {row:List Nat}:zas h l f row l.length=z8Q h l (f+1) row:=by
 have:∀ k,zas h l f row k=(List.range k).flatMap fun i=>bif okR h l row i then z8Q h l f (i::row) else []:=fun k=>by
  induction k with
  | zero=>rfl
  | succ k ih=>rw [zfD,←ih];rfl
 exact this _
def zbd (h:Hp) (l:List Sht):List (List Nat):=z8Q h l l.length []
def zR (l:List Sht) (row:List Nat):List Sht:=row.reverse.map fun i=>zo l i
theorem z2I {l:List Sht} {row:List Nat}:(zR l row).length=row.length:=by unfold zR;rw [List.length_map,List.length_reverse]
theorem zbe {l:List Sht} {row:List Nat} {i:Nat}:zR l (i::row)=zR l row++[zo l i]:=by
 unfold zR;rw [List.reverse_cons,List.map_append];rfl
theorem zgU {l:List Sht} {row:List Nat} {i:Nat}:zo (zR l (i::row)) row.length=zo l i:=by
 rw [zbe];unfold zo
 rw [List.getD_eq_getElem?_getD,List.getElem?_append_right (by rw [z2I];exact Nat.le_refl _),z2I,Nat.sub_self];rfl
theorem zed {l:List Sht} {row:List Nat} {i k:Nat} (hk:k<row.length):zo (zR l (i::row)) k=zo (zR l row) k:=by
 rw [zbe];unfold zo
 simp only [List.getD_eq_getElem?_getD]
 rw [List.getElem?_append_left (by rw [z2I];exact hk)]
end Go.Proofs.YtdpipdniklognaaGreat
/- Walks: the step of the iterator of rows. -/
set_option maxRecDepth 100000
namespace Go.Proofs.YtdpipdniklognaaGreat
variable {r:Rm}
theorem zaM (s:List Nat):(s.all (inB s))=true:=by
 rw [List.all_eq_true]
 intro x hx
 unfold inB
 rw [List.any_eq_true]
 exact ⟨x,hx,Nat.beq_refl x⟩
theorem zlV {n:Nat}:decide (0<Int.ofNat (n+1))=true:=decide_eq_true (by simp only [Int.ofNat_eq_natCast];omega)
theorem z2i {n:Nat}:Int.ofNat (n+1) - 1=Int.ofNat n:=by simp only [Int.ofNat_eq_natCast];omega
def zoW (h:Hp) (b:Bool) (l:List Sht):AV:=.fn 151 [] [.ref 2 0,.p (.fp [z0G b l] 0),.ref 1 0,.p (.fp (eHp h) 0),.ref 3 0,.ref 4 0]
def z6J (h:Hp) (b:Bool) (l:List Sht) (lp:VB) (k u:Nat) (g:Nat→Sht) (X:VS):VS :=
 (0,lp)::(1,.cells [.yld 0] 141)::(2,.cells [.sl 5 6 0 k l.length 1] 22)::(3,.cells [iv (Int.ofNat u)] 113)::(4,.cells [zoW h b l] 42)::(5,.arr l.length 6 (fun q=>zW (g q)) 74)::X
abbrev s5 (s:List Nat):List Nat:=0::1::2::3::4::5::s
theorem zmb {h:Hp} {l:List Sht} {row:List Nat} {k:Nat} (e:row.contains k=true):okR h l row k=false:=by unfold okR;rw [e];rfl
theorem zhl {h:Hp} {l:List Sht} {k:Nat}:okR h l [] k=(frS h (zo l k).id==0):=rfl
theorem zep {h:Hp} {l:List Sht} {j:Nat} {row:List Nat} {k:Nat} (e:(j::row).contains k=false):okR h l (j::row) k=zht h (zo l j) (zo l k):=by unfold okR;rw [e];rfl
def zqB (r:Rm) (h:Hp) (b:Bool) (l:List Sht) (N:Nat) (s:List Nat) (G:VK) (ps:List Tmp) (asg body:Code) (row:List Nat) (I:VS→Prop) (J:LExit→VS→Prop):zI:=fun e F2 L2 =>
 (e = .normal∧∃ F0 g X,Vw (sE r) (s5 s) F2 L2 F0 (z6J h b l (.loop .busy none G N ps asg body) row.length (z7c row) g X)∧(∀ k,k<row.length→g k=zo (zR l row) k)∧I X) ∨
 (zi e=false∧∃ F0 g X G3,Vw (sE r) (s5 s) F2 L2 F0 (z6J h b l (.loop .busy none G3 N ps asg body) row.length (z7c row) g X)∧J e X)
def zqf (r:Rm) (h:Hp) (b:Bool) (l:List Sht) (N:Nat) (s:List Nat) (G:VK) (ps:List Tmp) (asg body:Code) (row:List Nat) (I:VS→Prop) (J:LExit→VS→Prop):zI:=fun e F1 L1 =>
 e = .normal∧∃ G2,bk L1 0=some (.loop .ready none G2 N ps asg body)∧VSt.H (sE r) N (s5 s) none (zqB r h b l N s G ps asg body row I J) (.code body [] F1 (up L1 0 (.loop .busy none G2 N ps asg body)))
def zpU (h:Hp) (b:Bool) (l:List Sht) (N:Nat) (G:VK) (ps:List Tmp) (asg body:Code) (row:List Nat) (I:VS→Prop) (J:LExit→VS→Prop) (a:AV) (L':VS):Prop :=
 (a=bv true∧∃ g X,L'=z6J h b l (.loop .ready none G N ps asg body) row.length (z7c row) g X∧(∀ k,k<row.length→g k=zo (zR l row) k)∧I X) ∨
 (a=bv false∧∃ g X e G3,zi e=false∧L'=z6J h b l (.loop .done (codeOf e) G3 N ps asg body) row.length (z7c row) g X∧J e X)
theorem zn0 {s:Sht} {g:Nat→Sht} {m i:Nat}:(bif (0+m).ble i&&i.blt (0+m+1) then (fun k=>List.take 6 (List.drop (k*6) (zW s))) (i - (0+m)) else (fun q=>zW (g q)) i)=zW (if i=m then s else g i):=by
 rw [Nat.zero_add]
 by_cases e:i=m
 ·subst e
  rw [if_pos rfl,show Nat.ble i i=true from z2k (Nat.le_refl _),zfO (Nat.lt_succ_self i)]
  show List.take 6 (List.drop ((i - i)*6) (zW s))=_
  rw [Nat.sub_self];rfl
 ·rw [if_neg e]
  by_cases c:m≤i
  ·rw [ziA (show ¬ i<m+1 by omega),Bool.and_false];rfl
  ·rw [show Nat.ble m i=false by rw [←Bool.not_eq_true];exact fun h=>c (zA h)];rfl
theorem zeI {h:Hp} {l:List Sht} {f:Nat} {row:List Nat} {k:Nat}:∀ d,∃ t,zas h l f row (k+d)=zas h l f row k++t
 | 0=>⟨[],(List.append_nil _).symm⟩
 | d+1=>by
  obtain ⟨t,e⟩:=zeI (h:=h) (l:=l) (f:=f) (row:=row) (k:=k) d
  exact ⟨t++bif okR h l row (k+d) then z8Q h l f ((k+d)::row) else [],by rw [←List.append_assoc,←e];rfl⟩
theorem zmw {h:Hp} {l:List Sht} {f:Nat} {row:List Nat} {k q:Nat} (hk:k<l.length) (hok:okR h l row k=true) (hq:q<(z8Q h l f (k::row)).length):(z8Q h l (f+1) row)[(zas h l f row k).length+q]? = (z8Q h l f (k::row))[q]? ∧ (zas h l f row k).length+q<(z8Q h l (f+1) row).length:=by
 obtain ⟨t,e⟩:=zeI (h:=h) (l:=l) (f:=f) (row:=row) (k:=k+1) (l.length - (k+1))
 rw [show k+1+(l.length - (k+1))=l.length by omega,zeJ] at e
 have e2:zas h l f row (k+1)=zas h l f row k++z8Q h l f (k::row):=by
  show zas h l f row k++(bif okR h l row k then z8Q h l f (k::row) else [])=_
  rw [hok];rfl
 rw [e,e2,List.append_assoc]
 refine ⟨?_,?_⟩
 ·rw [List.getElem?_append_right (by omega),Nat.add_sub_cancel_left,List.getElem?_append_left hq]
 ·rw [List.length_append,List.length_append];omega
theorem ways {A B O T G:Prop} (hab:A∨B) (tail:O→T) (ha:A→(O→T)→G) (hb:B→(O→T)→G):G:=hab.elim (fun h=>ha h tail) fun h=>hb h tail
set_option maxHeartbeats 8000000 in
theorem step_ok {h:Hp} {b:Bool} {l:List Sht} (hl:l.length<60) (hw:h.sw.length<9223372036854775808) {N:Nat} {G G1:VK} {ps:List Tmp} {asg body:Code} (s:List Nat) (R:List (List Nat)) (I:Nat→VS→Prop) (J:LExit→VS→Prop)
  (hk:z5R N ps [.sl 5 6 0 l.length l.length 1] G=some G1)
  (hround:∀ q row g X,R[q]? = some row→row.length=l.length→(∀ k,k<row.length→g k=zo (zR l row) k)→I q X→VSt.H (sE r) N (s5 s) none (zqf r h b l N s G ps asg body row (I (q+1)) J) (.code asg [] G1 (z6J h b l (.loop .ready none G N ps asg body) row.length (z7c row) g X))) :
  ∀ f row o g X,f+row.length=l.length→(∀ i∈row,i<l.length)→(∀ k,k<(z8Q h l f row).length→R[o+k]? = (z8Q h l f row)[k]?)→(∀ k,k<row.length→g k=zo (zR l row) k)→I o X →
   VC (sE r) (s5 s) 151 [.ref 2 0,.p (.fp [z0G b l] 0),.ref 1 0,.p (.fp (eHp h) 0),.ref 3 0,.ref 4 0] (z6J h b l (.loop .ready none G N ps asg body) row.length (z7c row) g X)
    (zpU h b l N G ps asg body row (I (o+(z8Q h l f row).length)) J):=by
 intro f
 induction f with
 | zero =>
  intro row o g X hn _ hR hg hI
  have hn:row.length=l.length:=by omega
  have hR0:R[o]? = some row:=hR 0 (by show 0<1;decide)
  have hrd:=hround o row g X hR0 hn hg hI
  refine z3Q (fn:=Tryz.f151) za (zC rfl) (by kernel_rfl) rfl rfl ?_
  unfold z6J at hrd ⊢
  refine zb za false [] 200 rfl AllP.n ?_
  refine VSt.cond rfl (fun _=>?_) (fun q=>?_)
  ·refine zb za false [] 200 rfl AllP.n ?_
   refine VSt.yieldN (s5 s) rfl rfl rfl rfl rfl rfl rfl (by rw [hn];exact hk) rfl rfl (zaM _) (VW.mono hrd ?_)
   refine fun e F1 L1' h=>⟨h.1,h.2.elim fun G2 h2=>⟨G2,h2.1,VW.mono h2.2 ?_⟩⟩
   refine fun e F2 L2 h=>?_
   rcases h with ⟨he,F0,g',X',hv,hg',hI'⟩ | ⟨he,F0,g',X',G3,hv,hJ⟩
   ·subst he
    refine ⟨F0,_,none,G,hv,rfl,?_⟩
    refine zb za false [] 200 rfl AllP.n ?_
    exact ⟨rfl,_,rfl,.inl ⟨rfl,g',X',rfl,hg',hI'⟩⟩
   ·refine ⟨F0,_,none,G3,hv,rfl,?_⟩
    rw [he]
    refine zb za false [] 200 rfl AllP.n ?_
    exact ⟨rfl,_,rfl,.inr ⟨rfl,g',X',e,G3,he,rfl,hJ⟩⟩
  ·have q:(Int.ofNat row.length==Int.ofNat l.length)=false:=q
   rw [hn,beq_self_eq_true] at q;cases q
 | succ f ih =>
  intro row o g X hn hlt hR hg hI
  have hu:=zgw (l:=row) (fun i hi=>Nat.lt_trans (hlt i hi) hl)
  refine z3Q (fn:=Tryz.f151) za (zC rfl) (by kernel_rfl) rfl rfl ?_
  unfold z6J
  refine zb za false [] 200 rfl AllP.n ?_
  refine VSt.cond rfl (fun q=>?_) (fun q=>?_)
  ·have q:(Int.ofNat row.length==Int.ofNat l.length)=true:=q
   have:=eq_of_beq q
   simp only [Int.ofNat_eq_natCast] at this
   omega
  refine zb za false [] 200 rfl AllP.n ?_
  refine VSt.range za l.length (by omega) (fun k F L=>F=[(20,.p (z0G b l)),(0,.ref 2 0),(2,.ref 1 0),(3,.p (.fp (eHp h) 0)),(4,.ref 3 0),(5,.ref 4 0)]∧∃ g X,L=z6J h b l (.loop .ready none G N ps asg body) row.length (z7c row) g X∧(∀ k,k<row.length→g k=zo (zR l row) k)∧I (o+(zas h l f row k).length) X) rfl rfl
   ⟨[(20,.p (z0G b l)),(0,.ref 2 0),(2,.ref 1 0),(3,.p (.fp (eHp h) 0)),(4,.ref 3 0),(5,.ref 4 0)],_,(by (refine Vw.sub' (z5t (by repeat (first | exact z0d | refine z0x rfl ?_))))),rfl,g,X,rfl,hg,hI⟩ ?_ ?_
  ·rintro k F L hk1 ⟨rfl,g,X,rfl,hg,hI⟩
   unfold z6J
   refine zb za false [24] 200 rfl AllP.n ?_
   refine VSt.fr 6 [(22,nv k),(20,.p (z0G b l))] [(22,nv k),(21,nv l.length),(20,.p (z0G b l)),(0,.ref 2 0),(2,.ref 1 0),(3,.p (.fp (eHp h) 0)),(4,.ref 3 0),(5,.ref 4 0)] 5 (by repeat (first | exact z0d | refine z0x rfl ?_)) (by repeat (first | exact z0d | refine z0x rfl ?_)) rfl rfl rfl ?_
   refine VSt.go za false [] 200 rfl (AllP.c ‹_› (AllP.c rfl AllP.n)) ?_
   refine ⟨rfl,[(7,nv k),(8,.p (.fp (zW (zo l k)) 0))],(fun q=>zW (g q)),Vw.trans (z00 6 (zW (zo l k)) rfl rfl) (Vw.kp [7,8] [(5,5)] rfl),rfl,?_⟩
   refine zb za false [] 200 rfl AllP.n ?_
   refine VSt.pc rfl rfl rfl rfl rfl rfl rfl rfl ((z9X (h:=h) (id:=(zo l k).id) hw)) ?_
   refine zb za false [] 200 rfl AllP.n ?_
   refine z1P rfl rfl rfl rfl rfl rfl rfl rfl ((zhR (m:=z7c row) (k:=k) (by omega) (by omega))) ?_
   refine zb za false [] 200 rfl AllP.n ?_
   refine z0v 37 (bv (row.contains k)) rfl (z04 (by rw [zcJ])) ?_
   have hgk:zas h l f row (k+1)=zas h l f row k++bif okR h l row k then z8Q h l f (k::row) else []:=rfl
   have hskip:okR h l row k=false→zas h l f row (k+1)=zas h l f row k:=fun e=>by rw [hgk,e];exact List.append_nil _
   refine z0a 37 rfl (fun hc=>?_) (fun hc=>?_)
   ·have hc:row.contains k=true:=hc
    refine zb za false [] 200 rfl AllP.n ?_
    refine ⟨_,_,(by (refine Vw.sub' (z5t (by repeat (first | exact z0d | refine z0x rfl ?_))))),⟨rfl,g,X,rfl,hg,?_⟩,rfl⟩
    rw [hskip (zmb hc)];exact hI
   have hc:row.contains k=false:=hc
   have hrc:row=[]∨∃ j row',row=j::row':=by cases row with
    | nil=>exact .inl rfl
    | cons j row'=>exact .inr ⟨j,row',rfl⟩
   refine ways (O:=okR h l row k=true) (T:=?T) hrc ?tail ?ha ?hb
   case ha =>
    intro hrow tail
    refine zb za false [] 200 rfl AllP.n ?_
    refine z0v 41 (bv false) rfl (z04 (by rw [hrow];rfl)) ?_
    refine z0a 41 rfl (fun q1=>?_) (fun q1=>?_)
    ·exact absurd q1 (by decide)
    refine zb za false [] 200 rfl AllP.n ?_
    refine z0v 58 (bv true) rfl (z04 (by rw [hrow];rfl)) ?_
    refine z0a 58 rfl (fun q2=>?_) (fun q2=>?_)
    rotate_left
    ·exact absurd q2 (by decide)
    refine zb za false [] 200 rfl AllP.n ?_
    refine VSt.cond rfl (fun q3=>?_) (fun q3=>?_)
    ·have q3:(!(frS h (zo l k).id==0))=true:=q3
     refine zb za false [] 200 rfl AllP.n ?_
     refine ⟨_,_,(by (refine Vw.sub' (z5t (by repeat (first | exact z0d | refine z0x rfl ?_))))),⟨rfl,g,X,rfl,hg,?_⟩,rfl⟩
     rw [hskip (by rw [hrow,zhl];simpa using q3)];exact hI
    have q3:(!(frS h (zo l k).id==0))=false:=q3
    refine zb za false [63] 200 rfl AllP.n ?_
    refine zf (F0:=[(7,nv k),(8,.p (.fp (zW (zo l k)) 0)),(22,nv k),(21,nv l.length),(20,.p (z0G b l)),(0,.ref 2 0),(2,.ref 1 0),(3,.p (.fp (eHp h) 0)),(4,.ref 3 0),(5,.ref 4 0)]) (by (refine Vw.sub' (z5t (by repeat (first | exact z0d | refine z0x rfl ?_))))) ?_
    exact tail (by rw [hrow,zhl];simpa using q3)
   case hb =>
    intro hx tail
    refine hx.elim fun j hx=>hx.elim fun row' hrow=>?_
    have hlr:row.length=row'.length+1:=by rw [hrow];rfl
    have hlen:row'.length<60:=by omega
    have hk2:row'.length<l.length:=by omega
    have hk3:row'.length<row.length:=by omega
    have hk4:0+row'.length<l.length:=by omega
    have hgj:g row'.length=zo l j:=by rw [hg row'.length hk3,hrow,zgU]
    have hc2:(j::row').contains k=false:=by rw [←hrow];exact hc
    refine zb za false [] 200 rfl AllP.n ?_
    refine z0v 41 (bv true) rfl (z04 (by rw [hlr,zlV])) ?_
    refine z0a 41 rfl (fun q1=>?_) (fun q1=>?_)
    rotate_left
    ·exact absurd q1 (by decide)
    refine zb za false [46] 200 rfl AllP.n ?_
    refine z0v 45 (nv (row'.length+1)) rfl (z2d (by rw [hlr])) ?_
    refine zb za false [47] 200 rfl (AllP.c (by unfold inR;(try simp only [Int.ofNat_eq_natCast]);omega) AllP.n) ?_
    refine z0v 46 (nv row'.length) rfl (z2d z2i) ?_
    refine zb za false [49] 200 rfl (AllP.c ‹_› (AllP.c rfl (AllP.c ‹_› (AllP.c rfl AllP.n)))) ?_
    refine z0v 48 (.agg ((zW (zo l j)).map .p)) rfl (z04 (by rw [Nat.zero_add,hgj];rfl)) ?_
    refine zb za false [] 200 rfl AllP.n ?_
    refine z1P rfl rfl rfl rfl rfl rfl rfl rfl ((zo1 (h:=h) (a:=zo l j) (b:=zo l k) hw)) ?_
    refine zb za false [] 200 rfl AllP.n ?_
    refine z0a 54 rfl (fun q3=>?_) (fun q3=>?_)
    ·have q3:(!zht h (zo l j) (zo l k))=true:=q3
     refine zb za false [] 200 rfl AllP.n ?_
     refine ⟨_,_,(by (refine Vw.sub' (z5t (by repeat (first | exact z0d | refine z0x rfl ?_))))),⟨rfl,g,X,rfl,hg,?_⟩,rfl⟩
     rw [hskip (by rw [hrow,zep hc2];simpa using q3)];exact hI
    have q3:(!zht h (zo l j) (zo l k))=false:=q3
    refine zb za false [] 200 rfl AllP.n ?_
    refine z0v 58 (bv false) rfl (z04 (by rw [hlr];rfl)) ?_
    refine z0a 58 rfl (fun q4=>?_) (fun q4=>?_)
    ·exact absurd q4 (by decide)
    refine zb za false [63] 200 rfl AllP.n ?_
    refine zf (F0:=[(7,nv k),(8,.p (.fp (zW (zo l k)) 0)),(22,nv k),(21,nv l.length),(20,.p (z0G b l)),(0,.ref 2 0),(2,.ref 1 0),(3,.p (.fp (eHp h) 0)),(4,.ref 3 0),(5,.ref 4 0)]) (by (refine Vw.sub' (z5t (by repeat (first | exact z0d | refine z0x rfl ?_))))) ?_
    exact tail (by rw [hrow,zep hc2];simpa using q3)
   intro hok
   refine zb za false [65] 200 rfl AllP.n ?_
   refine VSt.fr 2 [(63,.sl 5 6 0 row.length l.length 1),(64,.agg ((zW (zo l k)).map .p))] [(7,nv k),(22,nv k),(21,nv l.length),(20,.p (z0G b l)),(0,.ref 2 0),(2,.ref 1 0),(3,.p (.fp (eHp h) 0)),(4,.ref 3 0),(5,.ref 4 0)] 5 (by repeat (first | exact z0d | refine z0x rfl ?_)) (by repeat (first | exact z0d | refine z0x rfl ?_)) rfl rfl rfl ?_
   have hroom:row.length+1≤l.length:=by omega
   refine VSt.go za false [] 200 rfl (AllP.c (by omega) (AllP.c (by omega) (AllP.c (fun q hq=>match q,hq with | 0,_=>rfl) (AllP.c rfl (AllP.c rfl (AllP.c ‹_› (AllP.c (by omega) AllP.n))))))) ?_
   refine ⟨rfl,[(66,.sl 5 6 0 (row.length+1) l.length 1)],(fun q=>zW (if q=row.length then zo l k else g q)),zN (ps:=[(5,5)]) ⟨rfl,rfl,(by repeat (first | exact zu | refine zq rfl rfl rfl ?_)),_,rfl,⟨rfl,BImp.arr (fun q _=>zn0),trivial⟩⟩,rfl,?_⟩
   refine zb za false [] 200 rfl AllP.n ?_
   refine VSt.pc rfl rfl rfl rfl rfl rfl rfl rfl ((zcz (m:=z7c row) (k:=k) (by omega) (by omega))) ?_
   refine zb za false [71] 200 rfl AllP.n ?_
   have hlt':∀ i∈k::row,i<l.length:=fun i hi=>by
    rcases List.mem_cons.1 hi with rfl | hi
    ·exact hk1
    ·exact hlt i hi
   have hR':∀ q,q<(z8Q h l f (k::row)).length→R[o+(zas h l f row k).length+q]? = (z8Q h l f (k::row))[q]? :=fun q hq=>by
    obtain ⟨e1,e2⟩:=zmw (h:=h) (f:=f) (row:=row) hk1 hok hq
    rw [Nat.add_assoc,hR _ e2,e1]
   have hg':∀ q,q<(k::row).length→(if q=row.length then zo l k else g q)=zo (zR l (k::row)) q:=fun q hq=>by
    have hq:q<row.length+1:=hq
    by_cases c:q=row.length
    ·rw [if_pos c,c,zgU]
    ·rw [if_neg c,hg q (by omega),zed (by omega)]
   have hb1:1 <<< k<9223372036854775808:=by rw [Nat.one_shiftLeft];exact Nat.lt_of_lt_of_le (Nat.pow_lt_pow_right (by decide) (show k<62 by omega)) (by decide)
   have hb2:z7c (k::row)<9223372036854775808:=Nat.lt_trans (zgw (fun i hi=>Nat.lt_trans (hlt' i hi) hl)) (by decide)
   have hC:=ih (k::row) (o+(zas h l f row k).length) (fun q=>if q=row.length then zo l k else g q) X (by show f+(row.length+1)=_;omega) hlt' hR' hg' hI
   have hgn:zas h l f row (k+1)=zas h l f row k++z8Q h l f (k::row):=by rw [hgk,hok];rfl
   refine VSt.ci (s5 s) rfl rfl rfl rfl rfl rfl rfl (zaM _) hC (fun a L' ha=>?_)
   rcases ha with ⟨rfl,g1,X1,rfl,hg1,hI1⟩ | ⟨rfl,g1,X1,e,G3,he,rfl,hJ1⟩
   ·unfold z6J
    refine zb za false [75] 200 rfl AllP.n ?_
    refine z06 74 (nv (row.length+1)) rfl (AImp.refl _) ?_
    refine zb za false [76] 200 rfl (AllP.c (by unfold inR;(try simp only [Int.ofNat_eq_natCast]);omega) AllP.n) ?_
    refine z06 75 (nv row.length) rfl (z2d z2i) ?_
    refine zb za false [] 200 rfl (AllP.c (by omega) (AllP.c (by omega) (AllP.c (by omega) (AllP.c rfl (AllP.c (by omega) (AllP.c ‹_› (AllP.c ‹_› (AllP.c ‹_› AllP.n)))))))) ?_
    refine zl (Vw.imp (L':=z6J h b l (.loop .ready none G N ps asg body) row.length (z7c row) g1 X1) ⟨rfl,BImp.refl _,rfl,BImp.refl _,rfl,BImp.refl _,rfl,BImp.cell1 (z2d (congrArg Int.ofNat (zgv hc))),rfl,BImp.refl _,rfl,BImp.refl _,LImp.refl _⟩) ?_
    unfold z6J
    refine VSt.cond rfl (fun q=>absurd q (by decide)) (fun _=>?_)
    refine zb za false [] 200 rfl AllP.n ?_
    refine ⟨_,_,(by (refine Vw.sub' (z5t (by repeat (first | exact z0d | refine z0x rfl ?_))))),⟨rfl,g1,X1,rfl,fun q hq=>?_,?_⟩,rfl⟩
    ·rw [hg1 q (Nat.lt_succ_of_lt hq),zed hq]
    ·rw [hgn,List.length_append,←Nat.add_assoc];exact hI1
   ·unfold z6J
    refine zb za false [75] 200 rfl AllP.n ?_
    refine z06 74 (nv (row.length+1)) rfl (AImp.refl _) ?_
    refine zb za false [76] 200 rfl (AllP.c (by unfold inR;(try simp only [Int.ofNat_eq_natCast]);omega) AllP.n) ?_
    refine z06 75 (nv row.length) rfl (z2d z2i) ?_
    refine zb za false [] 200 rfl (AllP.c (by omega) (AllP.c (by omega) (AllP.c (by omega) (AllP.c rfl (AllP.c (by omega) (AllP.c ‹_› (AllP.c ‹_› (AllP.c ‹_› AllP.n)))))))) ?_
    refine zl (Vw.imp (L':=z6J h b l (.loop .done (codeOf e) G3 N ps asg body) row.length (z7c row) g1 X1) ⟨rfl,BImp.refl _,rfl,BImp.refl _,rfl,BImp.refl _,rfl,BImp.cell1 (z2d (congrArg Int.ofNat (zgv hc))),rfl,BImp.refl _,rfl,BImp.refl _,LImp.refl _⟩) ?_
    unfold z6J
    refine VSt.cond rfl (fun _=>?_) (fun q=>absurd q (by decide))
    refine zb za false [] 200 rfl AllP.n ?_
    exact ⟨rfl,_,rfl,.inr ⟨rfl,g1,X1,e,G3,he,rfl,hJ1⟩⟩
  ·rintro F L ⟨rfl,g,X,rfl,hg,hI⟩
   unfold z6J
   refine zb za false [] 200 rfl AllP.n ?_
   refine ⟨rfl,_,rfl,.inl ⟨rfl,g,X,rfl,hg,?_⟩⟩
   rw [←zeJ];exact hI
end Go.Proofs.YtdpipdniklognaaGreat
/- Walks: the iterator of rows. -/
set_option maxRecDepth 100000
namespace Go.Proofs.YtdpipdniklognaaGreat
variable {r:Rm}
theorem rows_ok {h:Hp} {b:Bool} {l:List Sht}:VP (sE r) 119 [.agg ((eHp h).map .p),.p (z0G b l)] (.fn 150 [] [.p (.fp [z0G b l] 0),.p (.fp (eHp h) 0)]):=by
 refine VP.of (fn:=Tryz.f119) za (zC rfl) (by kernel_rfl) rfl rfl rfl ?_
 refine VSt.go za false [4] 200 rfl AllP.n ?_
 refine zf (z00 0 (eHp h) rfl rfl) ?_
 refine zf (z00 1 [z0G b l] rfl rfl) ?_
 refine VSt.go za false [] 200 rfl AllP.n ?_
 exact EndsP.mk rfl rfl rfl rfl
def zpV (h:Hp) (b:Bool) (l:List Sht) (N:Nat) (G:VK) (ps:List Tmp) (asg body:Code) (I:VS→Prop) (J:LExit→VS→Prop) (L':VS):Prop :=
 (∃ g X,L'=z6J h b l (.loop .ready none G N ps asg body) 0 0 g X∧I X)∨(∃ g X e G3,zi e=false∧L'=z6J h b l (.loop .done (codeOf e) G3 N ps asg body) 0 0 g X∧J e X)
set_option maxHeartbeats 4000000 in
theorem zec {h:Hp} {b:Bool} {l:List Sht} (hl:l.length<60) (hw:h.sw.length<9223372036854775808) {N:Nat} {G G1:VK} {ps:List Tmp} {asg body:Code} {X:VS} (s:List Nat) (I:Nat→VS→Prop) (J:LExit→VS→Prop) (hX:∀ i,i<10→bk X i=none) (hI:I 0 X)
  (hk:z5R N ps [.sl 5 6 0 l.length l.length 1] G=some G1)
  (hround:∀ q row g X,(zbd h l)[q]? = some row→row.length=l.length→(∀ k,k<row.length→g k=zo (zR l row) k)→I q X→VSt.H (sE r) N (s5 s) none (zqf r h b l N s G ps asg body row (I (q+1)) J) (.code asg [] G1 (z6J h b l (.loop .ready none G N ps asg body) row.length (z7c row) g X))) :
  VC (sE r) (s5 s) 150 [.yld 0,.p (.fp [z0G b l] 0),.p (.fp (eHp h) 0)] ((0,.loop .ready none G N ps asg body)::X) (fun _ L'=>zpV h b l N G ps asg body (I (zbd h l).length) J L'):=by
 refine z3Q (fn:=Tryz.f150) za (zC rfl) (by kernel_rfl) rfl rfl ?_
 refine zb za false [3] 200 rfl trivial ?_
 refine zaN 1 (hX 1 (by decide)) rfl rfl rfl rfl rfl ?_
 refine zb za false [9] 200 rfl AllP.n ?_
 refine ziR 5 za (hX 5 (by decide)) rfl rfl rfl rfl rfl rfl rfl (Nat.zero_le _) (by omega) ?_
 refine z3r 2 za (hX 2 (by decide)) rfl rfl rfl rfl ?_
 refine zb za false [5] 200 rfl AllP.n ?_
 refine z3r 3 za (hX 3 (by decide)) rfl rfl rfl rfl ?_
 refine zb za false [6] 200 rfl AllP.n ?_
 refine z3r 4 za (hX 4 (by decide)) rfl rfl rfl rfl ?_
 refine zb za false [12] 200 rfl AllP.n ?_
 refine zf (Vw.perm (L':=z6J h b l (.loop .ready none G N ps asg body) 0 0 (fun _=>default) X) fun i=>?_) ?_
 ·match i with
  | 0=>rfl
  | 1=>rfl
  | 2=>rfl
  | 3=>rfl
  | 4=>rfl
  | 5=>rfl
  | n+6=>rfl
 refine VSt.ci (s5 s) rfl rfl rfl rfl rfl rfl rfl (zaM _) (step_ok hl hw s (zbd h l) I J hk hround l.length [] 0 (fun _=>default) X rfl (fun i hi=>by cases hi) (fun k _=>by rw [Nat.zero_add];rfl) (fun k hk=>absurd hk (Nat.not_lt_zero k)) hI) (fun a L' ha=>?_)
 rcases ha with ⟨rfl,g1,X1,rfl,_,hI1⟩ | ⟨rfl,g1,X1,e,G3,he,rfl,hJ1⟩
 ·refine zb za false [] 200 rfl AllP.n ?_
  refine ⟨rfl,_,rfl,.inl ⟨g1,X1,rfl,?_⟩⟩
  rw [Nat.zero_add] at hI1;exact hI1
 ·refine zb za false [] 200 rfl AllP.n ?_
  exact ⟨rfl,_,rfl,.inr ⟨g1,X1,e,G3,he,rfl,hJ1⟩⟩
end Go.Proofs.YtdpipdniklognaaGreat
/- Walks: threads, span, broken. -/
set_option maxRecDepth 100000
namespace Go.Proofs.YtdpipdniklognaaGreat
variable {r:Rm}
def okT (h:Hp) (l:List Sht) (k:Nat):Bool:=toS h (zo l k).id==0||(decide (k+1<l.length)&&(zo l (k+1)).id==toS h (zo l k).id)
def zdZ (h:Hp) (l:List Sht):Bool:=zoN (okT h l) l.length
set_option maxHeartbeats 4000000 in
theorem z97 {h:Hp} {b:Bool} {l:List Sht} (hl:l.length≤1000) (hw:h.sw.length<9223372036854775808):VP (sE r) 120 [.agg ((eHp h).map .p),.p (z0G b l)] (bv (zdZ h l)):=by
 refine VP.of (fn:=Tryz.f120) za (zC rfl) (by kernel_rfl) rfl rfl rfl ?_
 refine VSt.go za false [] 200 rfl AllP.n ?_
 refine zl (z00 0 (eHp h) rfl rfl) ?_
 refine z0r za l.length (by omega) [1,2,9] (fun _=>[]) (fun _=>[]) (fun k=>∀ i,i<k→okT h l i=true) rfl rfl rfl (fun _=>rfl) rfl rfl z1k trivial (fun i hi=>absurd hi (Nat.not_lt_zero i)) (fun k hk hp=>?_) (fun hp=>?_)
 ·refine VSt.go za false [] 200 rfl (AllP.c ‹_› (AllP.c rfl AllP.n)) ?_
  refine VSt.pc rfl rfl rfl rfl rfl rfl rfl rfl ((z9X (h:=h) (id:=(zo l k).id) hw)) ?_
  refine VSt.go za false [] 200 rfl AllP.n ?_
  refine zg 25 rfl (fun h1=>?_) (fun h1=>?_)
  ·have h1:(!(toS h (zo l k).id==0))=true:=h1
   have h1':(toS h (zo l k).id==0)=false:=by simpa using h1
   refine VSt.go za false [30] 200 rfl (AllP.c (by unfold inR;(try simp only [Int.ofNat_eq_natCast]);omega) AllP.n) ?_
   refine z06 27 (nv (k+1)) rfl (AImp.refl _) ?_
   refine VSt.go za false [] 200 rfl AllP.n ?_
   refine zg 31 rfl (fun h2=>?_) (fun h2=>?_)
   ·have h2:(Int.ofNat (k+1)==Int.ofNat l.length)=true:=h2
    have e:k+1=l.length:=by
     have:=eq_of_beq h2
     simp only [Int.ofNat_eq_natCast] at this
     omega
    refine VSt.go za false [] 200 rfl AllP.n ?_
    refine EndsP.mk rfl rfl rfl ?_
    show bv false=bv _
    rw [show zdZ h l=false from zf1 hk (by unfold okT;rw [h1',decide_eq_false (by omega)];rfl)]
   ·have h2:(Int.ofNat (k+1)==Int.ofNat l.length)=false:=h2
    have e:k+1<l.length:=by
     have h3:k+1≠l.length:=fun g=>by rw [g,beq_self_eq_true] at h2;cases h2
     omega
    refine VSt.go za false [35] 200 rfl (AllP.c (by unfold inR;(try simp only [Int.ofNat_eq_natCast]);omega) AllP.n) ?_
    refine z06 34 (nv (k+1)) rfl (AImp.refl _) ?_
    refine VSt.go za false [] 200 rfl (AllP.c ‹_› (AllP.c rfl AllP.n)) ?_
    refine VSt.cond rfl (fun h3=>?_) (fun h3=>?_)
    ·have h3:(!((zo l (k+1)).id==toS h (zo l k).id))=true:=h3
     refine VSt.go za false [] 200 rfl AllP.n ?_
     refine EndsP.mk rfl rfl rfl ?_
     show bv false=bv _
     rw [show zdZ h l=false from zf1 hk (by unfold okT;rw [h1',show ((zo l (k+1)).id==toS h (zo l k).id)=false by simpa using h3,Bool.and_false];rfl)]
    ·have h3:(!((zo l (k+1)).id==toS h (zo l k).id))=false:=h3
     refine VSt.go za false [] 200 rfl AllP.n ?_
     exact ⟨by (refine Vw.drop (by repeat (first | exact zu | refine zq rfl rfl rfl ?_ | refine z0o rfl ‹_› (z07 _ ‹_›) ?_))),z0H hp (by unfold okT;rw [show ((zo l (k+1)).id==toS h (zo l k).id)=true by simpa using h3,decide_eq_true e];simp)⟩
  ·have h1:(!(toS h (zo l k).id==0))=false:=h1
   refine VSt.go za false [] 200 rfl AllP.n ?_
   exact ⟨by (refine Vw.drop (by repeat (first | exact zu | refine zq rfl rfl rfl ?_ | refine z0o rfl ‹_› (z07 _ ‹_›) ?_))),z0H hp (by unfold okT;rw [show (toS h (zo l k).id==0)=true by simpa using h1];rfl)⟩
 ·refine VSt.go za false [] 200 rfl AllP.n ?_
  refine EndsP.mk rfl rfl rfl ?_
  show bv true=bv _
  rw [show zdZ h l=true from allB_iff.2 hp]
structure BitS (s:Sht):Prop where
 h1:s.holes=Int.ofNat s.holes.toNat
 h2:s.holes.toNat≤4095
 u1:s.unsure=Int.ofNat s.unsure.toNat
 u2:s.unsure.toNat≤4095
theorem OkS.bit {s:Sht} (h:OkS s):BitS s:=by
 have a:=wth_iff.1 h.holes
 have b:=wth_iff.1 h.unsure
 refine ⟨?_,?_,?_,?_⟩
 ·simp only [Int.ofNat_eq_natCast];omega
 ·omega
 ·simp only [Int.ofNat_eq_natCast];omega
 ·omega
def zaq (s:Sht) (w:Nat):Bool:=s.holes.toNat.testBit w
def zoH (s:Sht) (w:Nat):Bool:=(s.holes.toNat ||| s.unsure.toNat).testBit w
def spF (l:List Sht) (w:Nat):Nat→Int
 | 0=> -1
 | k+1=>bif zaq (zo l k) w then (bif decide (spF l w k<0) then Int.ofNat k else spF l w k) else spF l w k
def spL (l:List Sht) (w:Nat):Nat→Int
 | 0=> -1
 | k+1=>bif zaq (zo l k) w then Int.ofNat k else spL l w k
set_option maxHeartbeats 4000000 in
theorem zlF {b:Bool} {l:List Sht} {w:Nat} (hl:l.length≤1000000) (hw:w<64) (hb:∀ k,k<l.length→BitS (zo l k)):VP (sE r) 105 [.p (z0G b l),nv w] (.agg [iv (spF l w l.length),iv (spL l w l.length)]):=by
 refine VP.of (fn:=Tryz.f105) za (zC rfl) (by kernel_rfl) rfl rfl rfl ?_
 refine VSt.go za false [] 200 rfl AllP.n ?_
 refine z0r za l.length (by omega) [1,4,5,9] (fun _=>[]) (fun k=>[(1,.cells [iv (spF l w k),iv (spL l w k)] 32),(0,.cells [iv 0,iv 0] 32)]) (fun _=>True) rfl rfl rfl (fun _=>rfl) rfl rfl z1k (LImp.refl _) trivial (fun k hk _=>?_) (fun _=>?_)
 ·have hB:=hb k hk
  have hh:=hB.h2
  have hm:(zo l k).holes.toNat<9223372036854775808:=by omega
  refine VSt.go za false [] 200 rfl (AllP.c ‹_› (AllP.c rfl AllP.n)) ?_
  refine z06 17 (iv (Int.ofNat (zo l k).holes.toNat)) rfl (z04 (congrArg iv hB.h1)) ?_
  refine VSt.pc rfl rfl rfl rfl rfl rfl rfl rfl ((zhR (m:=(zo l k).holes.toNat) (k:=w) hw hm)) ?_
  refine VSt.go za false [] 200 rfl AllP.n ?_
  refine VSt.cond rfl (fun h1=>?_) (fun h1=>?_)
  ·have h1:zaq (zo l k) w=false:=by simpa using (show (!zaq (zo l k) w)=true from h1)
   have e1:spF l w (k+1)=spF l w k:=by show (bif zaq (zo l k) w then _ else _)=_;rw [h1];rfl
   have e2:spL l w (k+1)=spL l w k:=by show (bif zaq (zo l k) w then _ else _)=_;rw [h1];rfl
   refine VSt.go za false [] 200 rfl AllP.n ?_
   refine ⟨?_,trivial⟩
   dsimp only
   rw [e1,e2]
   refine zN (ps:=[(1,1),(0,0)]) ⟨rfl,rfl,(by repeat (first | exact zu | refine zq rfl rfl rfl ?_)),_,rfl,(⟨rfl,BImp.refl _,rfl,BImp.refl _,trivial⟩)⟩
  ·have h1:zaq (zo l k) w=true:=by simpa using (show (!zaq (zo l k) w)=false from h1)
   have e2:spL l w (k+1)=Int.ofNat k:=by show (bif zaq (zo l k) w then _ else _)=_;rw [h1];rfl
   refine VSt.go za false [] 200 rfl AllP.n ?_
   refine VSt.cond rfl (fun h2=>?_) (fun h2=>?_)
   ·have h2:decide (spF l w k<0)=true:=h2
    have e1:spF l w (k+1)=Int.ofNat k:=by show (bif zaq (zo l k) w then (bif decide (spF l w k<0) then _ else _) else _)=_;rw [h1,h2];rfl
    refine VSt.go za false [] 200 rfl AllP.n ?_
    refine ⟨?_,trivial⟩
    dsimp only
    rw [e1,e2]
    refine zN (ps:=[(1,1),(0,0)]) ⟨rfl,rfl,(by repeat (first | exact zu | refine zq rfl rfl rfl ?_)),_,rfl,(⟨rfl,BImp.refl _,rfl,BImp.refl _,trivial⟩)⟩
   ·have h2:decide (spF l w k<0)=false:=h2
    have e1:spF l w (k+1)=spF l w k:=by show (bif zaq (zo l k) w then (bif decide (spF l w k<0) then _ else _) else _)=_;rw [h1,h2];rfl
    refine VSt.go za false [] 200 rfl AllP.n ?_
    refine ⟨?_,trivial⟩
    dsimp only
    rw [e1,e2]
    refine zN (ps:=[(1,1),(0,0)]) ⟨rfl,rfl,(by repeat (first | exact zu | refine zq rfl rfl rfl ?_)),_,rfl,(⟨rfl,BImp.refl _,rfl,BImp.refl _,trivial⟩)⟩
 ·refine VSt.go za false [] 200 rfl AllP.n ?_
  exact EndsP.mk rfl rfl rfl rfl
theorem znD (l:List Sht) (w:Nat):∀ k,(spF l w k = -1∧spL l w k = -1∧∀ i,i<k→zaq (zo l i) w=false) ∨
  ∃ a b,spF l w k=Int.ofNat a∧spL l w k=Int.ofNat b∧a≤b∧b<k∧zaq (zo l a) w=true∧zaq (zo l b) w=true∧(∀ i,i<a→zaq (zo l i) w=false)∧∀ i,b<i→i<k→zaq (zo l i) w=false
 | 0=>.inl ⟨rfl,rfl,none0⟩
 | k+1=>by
  have ih:=znD l w k
  have e1:spF l w (k+1)=bif zaq (zo l k) w then (bif decide (spF l w k<0) then Int.ofNat k else spF l w k) else spF l w k:=rfl
  have e2:spL l w (k+1)=bif zaq (zo l k) w then Int.ofNat k else spL l w k:=rfl
  cases hh:zaq (zo l k) w with
  | false =>
   rw [hh] at e1 e2
   rcases ih with ⟨h1,h2,h3⟩ | ⟨a,b,h1,h2,h3,h4,h5,h6,h7,h8⟩
   ·exact .inl ⟨e1.trans h1,e2.trans h2,z0H h3 hh⟩
   ·refine .inr ⟨a,b,e1.trans h1,e2.trans h2,h3,by omega,h5,h6,h7,fun i hi hk=>?_⟩
    by_cases c:i=k
    ·rw [c];exact hh
    ·exact h8 i hi (by omega)
  | true =>
   rw [hh] at e1 e2
   rcases ih with ⟨h1,h2,h3⟩ | ⟨a,b,h1,h2,h3,h4,h5,h6,h7,h8⟩
   ·rw [h1] at e1
    exact .inr ⟨k,k,e1,e2,Nat.le_refl _,Nat.lt_succ_self _,hh,hh,h3,fun i hi hk=>by omega⟩
   ·rw [h1,decide_eq_false (show ¬ Int.ofNat a<0 by simp only [Int.ofNat_eq_natCast];omega)] at e1
    exact .inr ⟨a,k,e1,e2,by omega,Nat.lt_succ_self _,h5,hh,h7,fun i hi hk=>by omega⟩
def zi0 (l:List Sht) (w a:Nat):Nat→Bool
 | 0=>false
 | j+1=>zi0 l w a j || !zoH (zo l (a+j)) w
def brB (l:List Sht) (w:Nat):Bool:=decide (0≤spF l w l.length)&&zi0 l w (spF l w l.length).toNat ((spL l w l.length).toNat+1 - (spF l w l.length).toNat)
def z3O (l:List Sht):Nat→Nat
 | 0=>0
 | w+1=>bif brB l w then z3O l w ||| 1 <<< w else z3O l w
theorem zce (l:List Sht):∀ w,z3O l w<2 ^ w
 | 0=>by show 0<2 ^ 0;decide
 | w+1=>by
  have ih:=zce l w
  have h:2 ^ w<2 ^ (w+1):=Nat.pow_lt_pow_right (by decide) (Nat.lt_succ_self w)
  show (bif brB l w then z3O l w ||| 1 <<< w else z3O l w)<_
  cases brB l w with
  | true=>exact Nat.or_lt_two_pow (Nat.lt_trans ih h) (by rw [Nat.one_shiftLeft];exact h)
  | false=>exact Nat.lt_trans ih h
set_option maxHeartbeats 8000000 in
theorem zcd {b:Bool} {l:List Sht} (hl:l.length≤1000000) (hb:∀ k,k<l.length→BitS (zo l k)):VP (sE r) 121 [.p (z0G b l)] (iv (Int.ofNat (z3O l 12))):=by
 refine VP.of (fn:=Tryz.f121) za (zC rfl) (by kernel_rfl) rfl rfl rfl ?_
 refine VSt.go za false [] 200 rfl AllP.n ?_
 refine z2a (ti:=8) 12 [0] (fun w=>[(3,iv (Int.ofNat (z3O l w)))]) (fun _=>[]) (fun _=>True) rfl rfl (z2R rfl (AImp.refl _) z1k) trivial trivial (fun w hw _=>?_)
 refine VSt.go za false [] 200 rfl AllP.n ?_
 refine VSt.cond rfl (fun g=>?_) (fun g=>?_)
 ·have g:=nlt (n:=12) g
  refine VSt.go za false [] 200 rfl AllP.n ?_
  refine VSt.pc rfl rfl rfl rfl rfl rfl rfl rfl ((zlF (w:=w) hl (by omega) hb)) ?_
  refine VSt.go za false [] 200 rfl AllP.n ?_
  refine VSt.cond rfl (fun h1=>?_) (fun h1=>?_)
  ·have h1:decide (spF l w l.length<0)=true:=h1
   have e1:z3O l (w+1)=z3O l w:=by
    have h2:=of_decide_eq_true h1
    show (bif brB l w then _ else _)=_
    rw [show brB l w=false by unfold brB;rw [decide_eq_false (by omega)];rfl];rfl
   refine VSt.go za false [] 200 rfl (AllP.c (by unfold inR;(try simp only [Int.ofNat_eq_natCast]);omega) AllP.n) ?_
   refine ⟨g,?_,trivial⟩
   dsimp only
   rw [e1]
   (refine Vw.drop (by repeat (first | exact zu | refine zq rfl rfl rfl ?_ | refine z0o rfl ‹_› (z07 _ ‹_›) ?_)))
  have h1:decide (spF l w l.length<0)=false:=h1
  have h2:=of_decide_eq_false h1
  rcases znD l w l.length with ⟨h3,_⟩ | ⟨a,c,h3,h4,h5,h6,h7,h8,h9,h10⟩
  ·exact absurd h3 (by omega)
  have hlt:z3O l w<9223372036854775808:=Nat.lt_of_lt_of_le (zce l w) (Nat.le_trans (Nat.pow_le_pow_right (by decide) (show w≤12 by omega)) (by decide))
  have e1:z3O l (w+1)=bif zi0 l w a (c+1 - a) then z3O l w ||| 1 <<< w else z3O l w:=by
   show (bif brB l w then _ else _)=_
   unfold brB
   rw [h3,h4,decide_eq_true (show 0≤Int.ofNat a by simp only [Int.ofNat_eq_natCast];omega)]
   rfl
  refine VSt.go za false [20] 200 rfl AllP.n ?_
  refine z06 19 (nv a) rfl (z2d h3) ?_
  refine VSt.go za false [22] 200 rfl AllP.n ?_
  refine z06 21 (nv c) rfl (z2d h4) ?_
  refine VSt.go za false [23] 200 rfl (AllP.c (by unfold inR;(try simp only [Int.ofNat_eq_natCast]);omega) AllP.n) ?_
  refine z06 22 (nv (c+1)) rfl (AImp.refl _) ?_
  refine VSt.go za false [] 200 rfl (AllP.c (by omega) (AllP.c ‹_› (AllP.c (fun _ _=>rfl) AllP.n))) ?_
  refine zl (Vw.kp [0,3,4,8,23,24,25] [] rfl) ?_
  refine z0r za (c+1 - a) (by omega) [0,4,8,23] (fun j=>[(3,iv (Int.ofNat (bif zi0 l w a j then z3O l w ||| 1 <<< w else z3O l w)))]) (fun _=>[]) (fun _=>True) rfl rfl rfl (fun _=>rfl) rfl rfl (z2R rfl (AImp.refl _) z1k) trivial trivial (fun j hj _=>?_) (fun _=>?_)
  ·have hB:=hb (a+j) (by omega)
   have q1:=hB.h2
   have q2:=hB.u2
   have q3:(zo l (a+j)).holes.toNat<9223372036854775808:=by omega
   have q4:(zo l (a+j)).unsure.toNat<9223372036854775808:=by omega
   have q5:(zo l (a+j)).holes.toNat ||| (zo l (a+j)).unsure.toNat<9223372036854775808:=Nat.lt_of_lt_of_le (Nat.or_lt_two_pow (n:=12) (by omega) (by omega)) (by decide)
   have q6:z3O l w ||| 1 <<< w<9223372036854775808:=Nat.lt_of_lt_of_le (Nat.or_lt_two_pow (n:=13) (Nat.lt_of_lt_of_le (zce l w) (Nat.pow_le_pow_right (by decide) (by omega))) (by rw [Nat.one_shiftLeft];exact Nat.pow_lt_pow_right (by decide) (by omega))) (by decide)
   have q7:(bif zi0 l w a j then z3O l w ||| 1 <<< w else z3O l w)<9223372036854775808:=by cases zi0 l w a j <;> assumption
   have e2:zi0 l w a (j+1)=(zi0 l w a j || !zoH (zo l (a+j)) w):=rfl
   refine VSt.go za false [31] 200 rfl (AllP.c ‹_› (AllP.c rfl AllP.n)) ?_
   refine z06 30 (iv (Int.ofNat (zo l (a+j)).holes.toNat)) rfl (z04 (congrArg iv hB.h1)) ?_
   refine VSt.go za false [33] 200 rfl AllP.n ?_
   refine z06 32 (iv (Int.ofNat (zo l (a+j)).unsure.toNat)) rfl (z04 (congrArg iv hB.u1)) ?_
   refine VSt.go za false [] 200 rfl (AllP.c ‹_› (AllP.c ‹_› AllP.n)) ?_
   refine VSt.pc rfl rfl rfl rfl rfl rfl rfl rfl ((zhR (m:=(zo l (a+j)).holes.toNat ||| (zo l (a+j)).unsure.toNat) (k:=w) (by omega) q5)) ?_
   refine VSt.go za false [] 200 rfl AllP.n ?_
   refine VSt.cond rfl (fun h11=>?_) (fun h11=>?_)
   ·have h11:(!zoH (zo l (a+j)) w)=true:=h11
    have e3:(bif zi0 l w a j then z3O l w ||| 1 <<< w else z3O l w) ||| 1 <<< w=bif zi0 l w a (j+1) then z3O l w ||| 1 <<< w else z3O l w:=by
     rw [e2,h11,Bool.or_true]
     cases zi0 l w a j with
     | true=>show z3O l w ||| 1 <<< w ||| 1 <<< w=z3O l w ||| 1 <<< w;rw [Nat.or_assoc,Nat.or_self]
     | false=>rfl
    refine VSt.go za false [] 200 rfl AllP.n ?_
    refine VSt.pc rfl rfl rfl rfl rfl rfl rfl rfl ((zcz (k:=w) (by omega) q7)) ?_
    refine VSt.go za false [] 200 rfl AllP.n ?_
    refine ⟨?_,trivial⟩
    dsimp only
    rw [←e3]
    (refine Vw.drop (by repeat (first | exact zu | refine zq rfl rfl rfl ?_ | refine z0o rfl ‹_› (z07 _ ‹_›) ?_)))
   ·have h11:(!zoH (zo l (a+j)) w)=false:=h11
    refine VSt.go za false [] 200 rfl AllP.n ?_
    refine ⟨?_,trivial⟩
    dsimp only
    rw [e2,h11,Bool.or_false]
    (refine Vw.drop (by repeat (first | exact zu | refine zq rfl rfl rfl ?_ | refine z0o rfl ‹_› (z07 _ ‹_›) ?_)))
  ·refine VSt.go za false [] 200 rfl (AllP.c (by unfold inR;(try simp only [Int.ofNat_eq_natCast]);omega) AllP.n) ?_
   refine ⟨g,?_,trivial⟩
   dsimp only
   rw [e1]
   (refine Vw.drop (by repeat (first | exact zu | refine zq rfl rfl rfl ?_ | refine z0o rfl ‹_› (z07 _ ‹_›) ?_)))
 ·have g:w=12:=by have:=nge (n:=12) g;omega
  subst g
  refine VSt.go za false [] 200 rfl AllP.n ?_
  exact EndsP.mk rfl rfl rfl rfl
end Go.Proofs.YtdpipdniklognaaGreat
/- Walks: the iterator of orders. -/
set_option maxRecDepth 100000
namespace Go.Proofs.YtdpipdniklognaaGreat
variable {r:Rm}
theorem zbq {h:Hp} {p:Int}:VP (sE r) 68 [.agg ((eHp h).map .p),iv p] (.fn 118 [] [.p (.fp (eHp h) 0),.p (.fp [.int .i64 p] 0)]):=by
 refine VP.of (fn:=Tryz.f68) za (zC rfl) (by kernel_rfl) rfl rfl rfl ?_
 refine VSt.go za false [4] 200 rfl AllP.n ?_
 refine zf (z00 0 (eHp h) rfl rfl) ?_
 refine zf (z00 1 [.int .i64 p] rfl rfl) ?_
 refine VSt.go za false [] 200 rfl AllP.n ?_
 exact EndsP.mk rfl rfl rfl rfl
def zdq (h:Hp) (l:List Sht) (row:List Nat):Bool:=zdZ h (zR l row)&&(z3O (zR l row) 12==0)
def z2T (h:Hp) (p:Int):List (List Nat):=(zbd h (zM h.st p)).filter (zdq h (zM h.st p))
def zlZ (h:Hp) (p:Int) (lpi lpo:VB) (k u:Nat) (g:Nat→Sht) (X:VS):VS:=z6J h h.stB (zM h.st p) lpi k u g ((11,.cells [.yld 10] 141)::(10,lpo)::X)
abbrev s12 (s:List Nat):List Nat:=s5 (11::10::s)
def zqD (r:Rm) (h:Hp) (p:Int) (N:Nat) (s:List Nat) (G:VK) (ps:List Tmp) (asg body:Code) (lpi:VB) (row:List Nat) (g:Nat→Sht) (I:VS→Prop) (J:LExit→VS→Prop):zI:=fun e F2 L2 =>
 (e = .normal∧∃ F0 X,Vw (sE r) (s12 s) F2 L2 F0 (zlZ h p lpi (.loop .busy none G N ps asg body) row.length (z7c row) g X)∧I X) ∨
 (zi e=false∧∃ F0 X G3,Vw (sE r) (s12 s) F2 L2 F0 (zlZ h p lpi (.loop .busy none G3 N ps asg body) row.length (z7c row) g X)∧J e X)
def zqE (r:Rm) (h:Hp) (p:Int) (N:Nat) (s:List Nat) (G:VK) (ps:List Tmp) (asg body:Code) (lpi:VB) (row:List Nat) (g:Nat→Sht) (I:VS→Prop) (J:LExit→VS→Prop):zI:=fun e F1 L1 =>
 e = .normal∧∃ G2,bk L1 10=some (.loop .ready none G2 N ps asg body)∧VSt.H (sE r) N (s12 s) none (zqD r h p N s G ps asg body lpi row g I J) (.code body [] F1 (up L1 10 (.loop .busy none G2 N ps asg body)))
def zpW (h:Hp) (p:Int) (N:Nat) (G:VK) (ps:List Tmp) (asg body:Code) (I:VS→Prop) (J:LExit→VS→Prop) (L':VS):Prop :=
 (∃ lp g X,L'=zlZ h p lp (.loop .ready none G N ps asg body) 0 0 g X∧I X)∨(∃ lp g X e G3,zi e=false∧L'=zlZ h p lp (.loop .done (codeOf e) G3 N ps asg body) 0 0 g X∧J e X)
theorem z5Q {h:Hp} (hO:OkH h) (p:Int):(zM h.st p).length≤7:=by
 cases hb:zM h.st p with
 | nil=>exact Nat.zero_le _
 | cons x t =>
  have hx:x∈zM h.st p:=by rw [hb];exact List.mem_cons_self ..
  obtain ⟨h1,h2⟩:=List.mem_filter.1 hx
  obtain ⟨k,hk,e⟩:=z2L (d:=default) h1
  have h3:=hO.few k hk
  have e2:zo h.st k=x:=e
  rw [e2,eq_of_beq h2] at h3
  rw [←hb];exact h3
theorem zgT {h:Hp} (hO:OkH h) {p:Int} {row:List Nat} (hr:∀ i∈row,i<(zM h.st p).length):∀ k,k<(zR (zM h.st p) row).length→BitS (zo (zR (zM h.st p) row) k):=by
 intro k hk
 have h1:zo (zR (zM h.st p) row) k∈zR (zM h.st p) row:=z0E hk
 obtain ⟨i,hi,e⟩:=List.mem_map.1 (show zo (zR (zM h.st p) row) k∈row.reverse.map fun i=>zo (zM h.st p) i from h1)
 rw [←e]
 have h2:zo (zM h.st p) i∈zM h.st p:=z0E (hr i (List.mem_reverse.1 hi))
 obtain ⟨h3,_⟩:=List.mem_filter.1 h2
 obtain ⟨q,hq,e2⟩:=z2L (d:=default) h3
 have e3:zo h.st q=zo (zM h.st p) i:=e2
 rw [←e3];exact (hO.ok q hq).bit
theorem zhY {h:Hp} {l:List Sht}:∀ f {row0 row:List Nat},row∈z8Q h l f row0→(∀ i∈row0,i<l.length)→∀ i∈row,i<l.length
 | 0,row0,row,hm,h0=>by
  have:row=row0:=List.mem_singleton.1 hm
  rw [this];exact h0
 | f+1,row0,row,hm,h0=>by
  obtain ⟨i,hi,hx⟩:=List.mem_flatMap.1 (show row∈(List.range l.length).flatMap fun i=>bif okR h l row0 i then z8Q h l f (i::row0) else [] from hm)
  cases hk:okR h l row0 i with
  | false=>rw [hk] at hx;cases hx
  | true =>
   rw [hk] at hx
   refine zhY f hx fun k hk=>?_
   rcases List.mem_cons.1 hk with rfl | hk
   ·exact List.mem_range.1 hi
   ·exact h0 k hk
theorem zeb {h:Hp} {l:List Sht} {row:List Nat} (hm:row∈zbd h l):∀ i∈row,i<l.length:=zhY _ hm fun i hi=>by cases hi
theorem zia {α : Type} {R:List α} {g : α → Bool} {q:Nat} {x : α} (h:R[q]? = some x):((R.take (q+1)).filter g).length=((R.take q).filter g).length+(bif g x then 1 else 0):=by
 rw [List.take_add_one,h,List.filter_append,List.length_append]
 cases hg:g x <;> simp [hg]
theorem zmC {α : Type} {R:List α} {g : α → Bool} {q:Nat} {x : α} (h:R[q]? = some x) (hg:g x=true):(R.filter g)[((R.take q).filter g).length]? = some x:=by
 have hq:q<R.length:=by
  rw [List.getElem?_eq_some_iff] at h;exact h.1
 have e:R=R.take q++x::R.drop (q+1):=by
  have h1:R[q]=x:=by rw [List.getElem?_eq_getElem hq] at h;exact Option.some.inj h
  rw [←h1,List.getElem_cons_drop,List.take_append_drop]
 have e2:R.filter g=(R.take q).filter g++x::(R.drop (q+1)).filter g:=by
  conv=>lhs;rw [e]
  rw [List.filter_append,List.filter_cons_of_pos hg]
 rw [e2,List.getElem?_append_right (Nat.le_refl _),Nat.sub_self];rfl
theorem z81 {n:Nat} {g:Nat→Sht} {rl:List Sht} (hn:n=rl.length) (hg:∀ k,k<n→g k=zo rl k):AImp (.p (.lst 74 false n fun q=>zW (g q))) (.p (z0G false rl)):=by
 subst hn
 exact AImp.lst fun k hk=>by rw [hg k hk];rfl
theorem z1I (m:Nat):(Int.ofNat m==0)=(m==0):=by
 rw [Bool.eq_iff_iff,beq_iff_eq,beq_iff_eq]
 simp only [Int.ofNat_eq_natCast];omega
theorem zpS (s:List Nat):((10::s).all (inB (s12 s)))=true:=by
 rw [List.all_eq_true]
 intro x hx
 unfold inB
 rw [List.any_eq_true]
 exact ⟨x,by simp only [List.mem_cons];simp only [List.mem_cons] at hx;rcases hx with h | h <;> simp [h],Nat.beq_refl x⟩
set_option maxHeartbeats 8000000 in
theorem z9f {h:Hp} {p:Int} (hz:SzH h) (hO:OkH h) {N:Nat} {G G1:VK} {ps:List Tmp} {asg body:Code} {X:VS} (s:List Nat) (I:Nat→VS→Prop) (J:LExit→VS→Prop) (hX:∀ i,i<12→bk X i=none) (hI:I 0 X)
  (hk:z5R N ps [.sl 5 6 0 (zM h.st p).length (zM h.st p).length 1] G=some G1)
  (hround:∀ q row g lpi X,(z2T h p)[q]? = some row→row.length=(zM h.st p).length→(∀ k,k<row.length→g k=zo (zR (zM h.st p) row) k)→I q X→VSt.H (sE r) N (s12 s) none (zqE r h p N s G ps asg body lpi row g (I (q+1)) J) (.code asg [] G1 (zlZ h p lpi (.loop .ready none G N ps asg body) row.length (z7c row) g X))) :
  VC (sE r) (10::s) 118 [.yld 10,.p (.fp (eHp h) 0),.p (.fp [.int .i64 p] 0)] ((10,.loop .ready none G N ps asg body)::X) (fun _ L'=>zpW h p N G ps asg body (I (z2T h p).length) J L'):=by
 have hb7:=z5Q hO p
 have hsw:=hO.sw
 have hst:=hO.st
 refine z3Q (fn:=Tryz.f118) za (zC rfl) (by kernel_rfl) rfl rfl ?_
 refine zb za false [3] 200 rfl trivial ?_
 refine zaN 11 (hX 11 (by decide)) rfl rfl rfl rfl rfl ?_
 refine zb za false [] 200 rfl trivial ?_
 refine z1P rfl rfl rfl rfl rfl rfl rfl rfl ((zcb (h:=h) (p:=p) hz (by omega))) ?_
 refine zb za false [] 200 rfl trivial ?_
 refine z1P rfl rfl rfl rfl rfl rfl rfl rfl ((rows_ok (h:=h) (b:=h.stB) (l:=zM h.st p))) ?_
 refine zb za false [] 200 rfl trivial ?_
 refine z15 0 (s12 s) (hX 0 (by decide)) rfl rfl rfl (zpS s)
  (zec (by omega) (by omega) (11::10::s) (fun q X'=>∃ X0,X'=(11,.cells [.yld 10] 141)::(10,.loop .ready none G N ps asg body)::X0∧I (((zbd h (zM h.st p)).take q).filter (zdq h (zM h.st p))).length X0)
   (fun e X'=>e = .ret∧∃ X0 e2 G3,X'=(11,.cells [.yld 10] 141)::(10,.loop .done (codeOf e2) G3 N ps asg body)::X0∧zi e2=false∧J e2 X0)
   (fun i hi=>by rw [zx,if_neg (by omega),zx,if_neg (by omega)];exact hX i (by omega)) ⟨X,rfl,hI⟩ rfl ?_) (fun a L' ha=>?_)
 ·rintro q row g X' hq hn hg ⟨X0,rfl,hI0⟩
  unfold z6J
  refine zb za false [] 200 rfl AllP.n ?_
  refine ⟨rfl,_,rfl,?_⟩
  refine zb za false [] 200 rfl AllP.n ?_
  have hrl:(zM h.st p).length=(zR (zM h.st p) row).length:=by rw [z2I,hn]
  have hg2:∀ k,k<(zM h.st p).length→g k=zo (zR (zM h.st p) row) k:=fun k hk=>hg k (by omega)
  have hmem:=List.mem_of_getElem? hq
  have hbit:=zgT hO (zeb hmem)
  have hfs:=zia (g:=zdq h (zM h.st p)) hq
  have hgd:zdq h (zM h.st p) row=(zdZ h (zR (zM h.st p) row)&&(z3O (zR (zM h.st p) row) 12==0)):=rfl
  refine z4q (F0:=[(11,.agg ((eHp h).map .p)),(12,.p (.lst 74 false (zM h.st p).length fun q=>zW (g q)))]) (z5j (i:=5) rfl (zkY rfl rfl (z8a rfl (Nat.le_refl _) (Nat.le_refl _) z3E))) rfl rfl rfl rfl rfl rfl rfl
   (VP.imp (z97 (h:=h) (b:=false) (l:=zR (zM h.st p) row) (by omega) (by omega)) ⟨AImp.refl _,z81 hrl hg2,trivial⟩) rfl ?_
  refine zb za false [] 200 rfl AllP.n ?_
  refine zg 14 rfl (fun h1=>?_) (fun h1=>?_)
  rotate_left
  ·have h1:zdZ h (zR (zM h.st p) row)=false:=h1
   refine zb za false [] 200 rfl AllP.n ?_
   refine .inl ⟨rfl,[],g,_,Vw.sub' (z5t z0d),hg,X0,rfl,?_⟩
   rw [hfs,hgd,h1];exact hI0
  have h1:zdZ h (zR (zM h.st p) row)=true:=h1
  refine zb za false [] 200 rfl AllP.n ?_
  refine z4q (F0:=[(15,.p (.lst 74 false (zM h.st p).length fun q=>zW (g q)))]) (z5j (i:=5) rfl (z8a rfl (Nat.le_refl _) (Nat.le_refl _) z3E)) rfl rfl rfl rfl rfl rfl rfl
   (VP.imp (zcd (b:=false) (l:=zR (zM h.st p) row) (by omega) hbit) ⟨z81 hrl hg2,trivial⟩) rfl ?_
  refine zb za false [] 200 rfl AllP.n ?_
  refine z06 19 (bv (z3O (zR (zM h.st p) row) 12==0)) rfl (z04 (by rw [z1I])) ?_
  refine zg 19 rfl (fun h2=>?_) (fun h2=>?_)
  rotate_left
  ·have h2:(z3O (zR (zM h.st p) row) 12==0)=false:=h2
   refine zb za false [] 200 rfl AllP.n ?_
   refine .inl ⟨rfl,[],g,_,Vw.sub' (z5t z0d),hg,X0,rfl,?_⟩
   rw [hfs,hgd,h1,h2];exact hI0
  have h2:(z3O (zR (zM h.st p) row) 12==0)=true:=h2
  have hgt:zdq h (zM h.st p) row=true:=by rw [hgd,h1,h2];rfl
  refine zb za false [] 200 rfl AllP.n ?_
  refine VSt.yieldN (s12 s) rfl rfl rfl rfl rfl rfl rfl hk rfl rfl (zaM _) (VW.mono (hround _ row g _ X0 (zmC hq hgt) hn hg hI0) ?_)
  refine fun e F1 L1' h=>⟨h.1,h.2.elim fun G2 h2=>⟨G2,h2.1,VW.mono h2.2 ?_⟩⟩
  refine fun e F2 L2 h=>?_
  rcases h with ⟨he,F0,X1,hv,hI1⟩ | ⟨he,F0,X1,G3,hv,hJ1⟩
  ·subst he
   refine ⟨F0,_,none,G,hv,rfl,?_⟩
   refine zb za false [] 200 rfl AllP.n ?_
   refine .inl ⟨rfl,[],g,_,Vw.sub' (z5t z0d),hg,X1,rfl,?_⟩
   rw [hfs,hgt];exact hI1
  ·refine ⟨F0,_,none,G3,hv,rfl,?_⟩
   rw [he]
   refine zb za false [] 200 rfl AllP.n ?_
   exact .inr ⟨rfl,[],g,_,_,Vw.sub' (z5t z0d),rfl,X1,e,G3,rfl,he,hJ1⟩
 ·rcases ha with ⟨g1,X1,rfl,X0,rfl,hI1⟩ | ⟨g1,X1,e,G3,he,rfl,rfl,X0,e2,G4,rfl,he2,hJ1⟩
  ·refine ⟨_,_,_,.normal,_,_,_,_,rfl,rfl,rfl,?_⟩
   refine zb za false [] 200 rfl AllP.n ?_
   refine ⟨rfl,_,rfl,.inl ⟨_,g1,X0,rfl,?_⟩⟩
   rw [List.take_length] at hI1;exact hI1
  ·refine ⟨_,_,_,.ret,_,_,_,_,rfl,rfl,rfl,?_⟩
   refine zb za false [] 200 rfl AllP.n ?_
   exact ⟨rfl,_,rfl,.inr ⟨_,g1,X0,e2,G4,he2,rfl,hJ1⟩⟩
end Go.Proofs.YtdpipdniklognaaGreat
/- Walks: loops over the orders: Count, nth, Order, Nth. -/
set_option maxRecDepth 100000
namespace Go.Proofs.YtdpipdniklognaaGreat
variable {r:Rm}
theorem VSt.scope {E:Env} {N:Nat} {st:List Nat} {rd:Option Nat} {Q:zI} {c:Code} {K:List KI} {F:VK} {L:VS} (h:VSt.H E N st rd Q (.code c K F L)):VSt.H E N st rd Q (.code (.scope c) K F L):=by
 intro T S Z j h1 h2 h3 h4
 obtain ⟨n,r,h5,h6⟩:=h T S Z j h1 h2 h3 h4
 exact ⟨n+1,r,fun m hm=>by obtain ⟨k,rfl,hk⟩:=zh hm;exact h5 (k+1) (by omega),h6⟩
theorem VSt.label {E:Env} {N:Nat} {st:List Nat} {rd:Option Nat} {Q:zI} {n:Nat} {K:List KI} {F:VK} {L:VS} (h:VSt.H E N st rd Q (.ex .normal K F L)):VSt.H E N st rd Q (.code (.label n) K F L):=fun T S Z j h1 h2 h3 h4 =>
 ⟨1,⟨.normal,T,S⟩,fun m hm=>by obtain ⟨k,rfl,_⟩:=zh hm;rfl,F,L,Z,j,z3h h1 h2 h3 h4,h⟩
theorem zhM {n n0 c ex:Nat} {g:Nat→Sht} {rl:List Sht} (hn:n=rl.length) (h0:n≤n0) (hc:n≤c) (hg:∀ k,k<n→g k=zo rl k) (hl:n≤1000) :
  VC (sE r) [0] 111 [.sl 0 6 0 n c ex] [(0,.arr n0 6 (fun q=>zW (g q)) 74)] (fun a L'=>a = .p (eL (rl.map (·.id)))∧L'=[(0,.arr n0 6 (fun q=>zW (g q)) 74)]):=by
 subst hn
 refine z3Q (fn:=Tryz.f111) za (zC rfl) (by kernel_rfl) rfl rfl ?_
 refine VSt.go za false [] 200 rfl AllP.n ?_
 refine zl (z3L 1 1 (fL []) 3 rfl) ?_
 refine z0r za rl.length (by omega) [6] (fun k=>[(3,.acc true 1 1 ((rl.take k).map (·.id)).length)]) (fun k=>[(1,.acc ((rl.take k).map (·.id)).length 1 (fL ((rl.take k).map (·.id))) 3),(0,.arr n0 6 (fun q=>zW (g q)) 74)]) (fun _=>True) rfl rfl rfl (fun _=>rfl) rfl rfl (z2R rfl z1h z1k) (LImp.refl _) trivial (fun k hk _=>?_) (fun _=>?_)
 ·have e:=zeu (f:=fun s:Sht=>s.id) hk
  have hN:=congrArg List.length e
  rw [List.length_append,List.length_singleton] at hN
  have hlen:((rl.take k).map (·.id)).length=k:=by rw [List.length_map,List.length_take];omega
  have hk0:0+k<n0:=by omega
  rw [show rl.getD k default=g (0+k) by rw [Nat.zero_add,hg k hk];rfl] at e
  refine VSt.go za false [] 200 rfl (AllP.c ‹_› (AllP.c rfl (AllP.c ‹_› (AllP.c rfl (AllP.c (by omega) (AllP.c (by omega) (AllP.c (fun q hq=>match q,hq with | 0,_=>rfl) (AllP.c rfl (AllP.c rfl (AllP.c rfl AllP.n)))))))))) ?_
  refine ⟨?_,trivial⟩
  exact zN (ps:=[(1,3),(0,0)]) ⟨rfl,rfl,(by repeat (first | exact zu | refine zq rfl rfl rfl ?_ | refine z1B rfl rfl z5Y ?_ | refine z1B rfl rfl (AImp.acc hN.symm (fun _=>rfl)) ?_)),_,rfl,⟨rfl,BImp.acc hN.symm (fun q hq=>by rw [e];exact zdG _ _ q hq),rfl,BImp.refl _,trivial⟩⟩
 ·rw [List.take_length]
  refine VSt.go za false [18] 200 rfl AllP.n ?_
  refine zf (Vw.kp [3] [(1,1),(0,0)] rfl) ?_
  refine zf (z1s 1 rfl rfl ⟨Nat.le_refl _,rfl⟩) ?_
  refine VSt.go za false [] 200 rfl AllP.n ?_
  exact ⟨rfl,_,rfl,zf2 rfl,rfl⟩
def zfB (h:Hp) (p:Int) (row:List Nat):List Int:=(zR (zM h.st p) row).map (·.id)
def zhq (h:Hp) (p:Int) (m:Nat):List Int:=match (z2T h p)[m]? with
 | some row=>zfB h p row
 | none=>[]
theorem zd7 {h:Hp} {p:Int} {m:Nat} {row:List Nat} (e:(z2T h p)[m]? = some row):zhq h p m=zfB h p row:=by unfold zhq;rw [e]
theorem zhp {h:Hp} {p:Int} {m:Nat} (e:(z2T h p).length≤m):zhq h p m=[]:=by unfold zhq;rw [List.getElem?_eq_none e]
set_option maxHeartbeats 8000000 in
theorem znY {h:Hp} {p:Int} {m:Nat} (hz:SzH h) (hO:OkH h) (hm:m≤1000000):VP (sE r) 101 [.agg ((eHp h).map .p),iv p,nv m] (.tup [.p (eL (zhq h p m)),bv (decide (m<(z2T h p).length))]):=by
 have hb7:=z5Q hO p
 refine VP.of (fn:=Tryz.f101) za (zC rfl) (by kernel_rfl) rfl rfl rfl ?_
 refine VSt.go za false [] 200 rfl AllP.n ?_
 refine zf (z00 0 (eHp h) rfl rfl) ?_
 refine zf (z00 1 [.int .i64 (Int.ofNat m)] rfl rfl) ?_
 refine VSt.pc rfl rfl rfl rfl rfl rfl rfl rfl ((zbq (h:=h) (p:=p))) ?_
 refine VSt.go za false [] 200 rfl AllP.n ?_
 refine zl (Vw.kp [3,5,6,7,8,12] [(14,4),(13,3),(12,2)] rfl) ?_
 refine z15 10 [10,12,13,14] rfl rfl rfl rfl rfl
  (z9f hz hO [12,13,14] (fun q X=>X=[(14,.cells [nv q] 3),(13,.cells [bv false] 4),(12,.cells [.p (.lst 0 true 0 fun _=>[])] 37)]∧q≤m)
   (fun e X=>e = .ret∧∃ row,(z2T h p)[m]? = some row∧X=[(14,.cells [nv m] 3),(13,.cells [bv true] 4),(12,.cells [.p (eL (zfB h p row))] 37)])
   (fun i hi=>by show bk [(14,_),(13,_),(12,_)] i=none;rw [zx,if_neg (by omega),zx,if_neg (by omega),zx,if_neg (by omega)];rfl) ⟨rfl,Nat.zero_le _⟩ rfl ?_) (fun a L' ha=>?_)
 ·rintro q row g lpi X hq hn hg ⟨rfl,hq1⟩
  have hrl:(zM h.st p).length=(zR (zM h.st p) row).length:=by rw [z2I,hn]
  have hg2:∀ k,k<(zM h.st p).length→g k=zo (zR (zM h.st p) row) k:=fun k hk=>hg k (by omega)
  unfold zlZ z6J
  refine zb za false [] 200 rfl AllP.n ?_
  refine ⟨rfl,_,rfl,?_⟩
  refine zb za false [] 200 rfl AllP.n ?_
  refine VSt.cond rfl (fun h1=>?_) (fun h1=>?_)
  ·have h1:(Int.ofNat q==Int.ofNat m)=true:=h1
   have e1:q=m:=by
    have:=eq_of_beq h1
    simp only [Int.ofNat_eq_natCast] at this
    omega
   subst e1
   refine zb za false [18] 200 rfl AllP.n ?_
   refine VSt.fr 1 [(17,.sl 5 6 0 (zM h.st p).length (zM h.st p).length 1)] [(6,.ref 12 0),(7,.ref 13 0)] 5 (by repeat (first | exact z0d | refine z0x rfl ?_)) (by repeat (first | exact z0d | refine z0x rfl ?_)) rfl rfl rfl ?_
   refine VSt.cc [(0,5)] rfl rfl rfl rfl rfl rfl rfl rfl rfl rfl rfl (zhM (rl:=zR (zM h.st p) row) hrl (Nat.le_refl _) (Nat.le_refl _) hg2 (by omega)) (fun a L' ha=>?_)
   rcases ha with ⟨rfl,rfl⟩
   refine VSt.go za false [] 200 rfl AllP.n ?_
   refine ⟨rfl,[(18,.p (eL (zfB h p row)))],(fun q=>zW (g q)),Vw.kp [18] [(5,5)] rfl,rfl,?_⟩
   refine zb za false [] 200 rfl AllP.n ?_
   exact .inr ⟨rfl,[],_,_,Vw.sub' (z5t z0d),rfl,row,hq,rfl⟩
  ·have h1:(Int.ofNat q==Int.ofNat m)=false:=h1
   have e1:q≠m:=fun e=>by rw [e,beq_self_eq_true] at h1;cases h1
   refine zb za false [] 200 rfl (AllP.c (by unfold inR;(try simp only [Int.ofNat_eq_natCast]);omega) AllP.n) ?_
   exact .inl ⟨rfl,[],_,Vw.sub' (z5t z0d),rfl,by omega⟩
 ·rcases ha with ⟨lp,g1,X,rfl,rfl,hlt⟩ | ⟨lp,g1,X,e,G3,he,rfl,rfl,row,hrow,rfl⟩
  ·refine ⟨_,_,_,.normal,_,_,_,_,rfl,rfl,rfl,?_⟩
   refine zb za false [] 200 rfl AllP.n ?_
   rw [zhp hlt,decide_eq_false (show ¬ m<(z2T h p).length by omega)]
   refine ⟨rfl,_,rfl,rfl,?_⟩
   exact AImp.tup ⟨AImp.nil,AImp.refl _,trivial⟩
  ·refine ⟨_,_,_,.ret,_,_,_,_,rfl,rfl,rfl,?_⟩
   refine zb za false [] 200 rfl AllP.n ?_
   refine EndsP.mk rfl rfl rfl ?_
   have hlt:=(List.getElem?_eq_some_iff.1 hrow).1
   rw [zd7 hrow,decide_eq_true hlt];rfl
end Go.Proofs.YtdpipdniklognaaGreat
/- Walks: whether a list is an order. -/
set_option maxRecDepth 100000
namespace Go.Proofs.YtdpipdniklognaaGreat
variable {r:Rm}
theorem zka {b1 b2:Bool} {l m:List Int} (hl:l.length<9223372036854775808) (hm:m.length<9223372036854775808):VP (sE r) 141 [.p (z2F b1 l),.p (z2F b2 m)] (bv (l==m)):=by
 refine VP.of (fn:=Tryz.f141) za (zC rfl) (by kernel_rfl) rfl rfl rfl ?_
 refine VSt.go za false [] 200 rfl AllP.n ?_
 refine VSt.cond rfl (fun h=>?_) (fun h=>?_)
 ·have h:(!(Int.ofNat l.length==Int.ofNat m.length))=true:=h
  have e:(l==m)=false:=by
   rw [←Bool.not_eq_true]
   intro g
   rw [eq_of_beq g,beq_self_eq_true] at h;cases h
  refine VSt.go za false [] 200 rfl AllP.n ?_
  refine EndsP.mk rfl rfl rfl ?_
  show bv false=bv _
  rw [e]
 have h:(!(Int.ofNat l.length==Int.ofNat m.length))=false:=h
 have e:l.length=m.length:=by
  have:=eq_of_beq (show (Int.ofNat l.length==Int.ofNat m.length)=true by simpa using h)
  simp only [Int.ofNat_eq_natCast] at this
  omega
 refine VSt.go za false [] 200 rfl AllP.n ?_
 refine z0r za l.length hl [0,1] (fun _=>[]) (fun _=>[]) (fun k=>∀ i,i<k→l.getD i 0=m.getD i 0) rfl rfl rfl (fun _=>rfl) rfl rfl z1k trivial none0 (fun k hk hp=>?_) (fun hp=>?_)
 ·have hkm:k<m.length:=by omega
  refine VSt.go za false [] 200 rfl (AllP.c ‹_› (AllP.c rfl (AllP.c ‹_› (AllP.c rfl AllP.n)))) ?_
  refine VSt.cond rfl (fun h1=>?_) (fun h1=>?_)
  ·have h1:(!(l.getD k 0==m.getD k 0))=true:=h1
   have e2:(l==m)=false:=by
    rw [←Bool.not_eq_true]
    intro g
    rw [eq_of_beq g,beq_self_eq_true] at h1;cases h1
   refine VSt.go za false [] 200 rfl AllP.n ?_
   refine EndsP.mk rfl rfl rfl ?_
   show bv false=bv _
   rw [e2]
  ·have h1:(!(l.getD k 0==m.getD k 0))=false:=h1
   refine VSt.go za false [] 200 rfl AllP.n ?_
   exact ⟨by (refine Vw.drop (by repeat (first | exact zu | refine zq rfl rfl rfl ?_ | refine z0o rfl ‹_› (z07 _ ‹_›) ?_))),z0H hp (eq_of_beq (by simpa using h1))⟩
 ·have e2:l=m:=List.ext_getElem e fun i h1 h2=>by
   have:=hp i h1
   rwa [z0f h1,z0f h2] at this
  refine VSt.go za false [] 200 rfl AllP.n ?_
  refine EndsP.mk rfl rfl rfl ?_
  show bv true=bv _
  rw [e2,beq_self_eq_true]
theorem zhN {b:Bool} {l:List Sht} (hn:l.length≤1000):VC (sE r) [] 111 [.p (z0G b l)] [] (fun a L'=>a = .acc true 0 1 (l.map (·.id)).length∧L'=[(0,.acc (l.map (·.id)).length 1 (fL (l.map (·.id))) 3)]):=by
 refine z3Q (fn:=Tryz.f111) za (zC rfl) (by kernel_rfl) rfl rfl ?_
 refine VSt.go za false [] 200 rfl AllP.n ?_
 refine zl (z3L 0 1 (fL []) 3 rfl) ?_
 refine z0r za l.length (by omega) [6] (fun k=>[(3,.acc true 0 1 ((l.take k).map (·.id)).length)]) (fun k=>[(0,.acc ((l.take k).map (·.id)).length 1 (fL ((l.take k).map (·.id))) 3)]) (fun _=>True) rfl rfl rfl (fun _=>rfl) rfl rfl (z2R rfl z1h z1k) (LImp.refl _) trivial (fun k hk _=>?_) (fun _=>?_)
 ·have e:=zeu (f:=fun s:Sht=>s.id) hk
  have hN:=congrArg List.length e
  rw [List.length_append,List.length_singleton] at hN
  have hlen:((l.take k).map (·.id)).length=k:=by rw [List.length_map,List.length_take];omega
  refine VSt.go za false [] 200 rfl (AllP.c ‹_› (AllP.c rfl (AllP.c (by omega) (AllP.c (by omega) (AllP.c (fun q hq=>match q,hq with | 0,_=>rfl) (AllP.c rfl (AllP.c rfl (AllP.c rfl AllP.n)))))))) ?_
  refine ⟨?_,trivial⟩
  exact zN (ps:=[(0,2)]) ⟨rfl,rfl,(by repeat (first | exact zu | refine zq rfl rfl rfl ?_ | refine z1B rfl rfl z5Y ?_ | refine z1B rfl rfl (AImp.acc hN.symm (fun _=>rfl)) ?_)),_,rfl,⟨rfl,BImp.acc hN.symm (fun q hq=>by rw [e];exact zdG _ _ q hq),trivial⟩⟩
 ·rw [List.take_length]
  refine VSt.go za false [18] 200 rfl AllP.n ?_
  refine zf (Vw.kp [3] [(0,0)] rfl) ?_
  refine VSt.go za false [] 200 rfl AllP.n ?_
  exact ⟨rfl,_,rfl,rfl,rfl⟩
def zhy (h:Hp) (p:Int) (o:List Int):Bool:=(z2T h p).any fun row=>zfB h p row==o
set_option maxHeartbeats 8000000 in
theorem zfy {h:Hp} {p:Int} {b:Bool} {o:List Int} (hz:SzH h) (hO:OkH h) (ho:o.length<9223372036854775808):VP (sE r) 100 [.agg ((eHp h).map .p),iv p,.p (z2F b o)] (bv (zhy h p o)):=by
 have hb7:=z5Q hO p
 refine VP.of (fn:=Tryz.f100) za (zC rfl) (by kernel_rfl) rfl rfl rfl ?_
 refine VSt.go za false [] 200 rfl AllP.n ?_
 refine zf (z00 0 (eHp h) rfl rfl) ?_
 refine zf (z00 1 [z2F b o] rfl rfl) ?_
 refine VSt.pc rfl rfl rfl rfl rfl rfl rfl rfl ((zbq (h:=h) (p:=p))) ?_
 refine VSt.go za false [] 200 rfl AllP.n ?_
 refine zl (Vw.kp [3,5,6,10] [(12,2)] rfl) ?_
 refine z15 10 [10,12] rfl rfl rfl rfl rfl
  (z9f hz hO [12] (fun q X=>X=[(12,.cells [bv false] 4)]∧((z2T h p).take q).any (fun row=>zfB h p row==o)=false)
   (fun e X=>e = .ret∧zhy h p o=true∧X=[(12,.cells [bv true] 4)])
   (fun i hi=>by show bk [(12,_)] i=none;rw [zx,if_neg (by omega)];rfl) ⟨rfl,rfl⟩ rfl ?_) (fun a L' ha=>?_)
 ·rintro q row g lpi X hq hn hg ⟨rfl,hq1⟩
  have hrl:(zM h.st p).length=(zR (zM h.st p) row).length:=by rw [z2I,hn]
  have hg2:∀ k,k<(zM h.st p).length→g k=zo (zR (zM h.st p) row) k:=fun k hk=>hg k (by omega)
  unfold zlZ z6J
  refine zb za false [] 200 rfl AllP.n ?_
  refine ⟨rfl,_,rfl,?_⟩
  refine zb za false [] 200 rfl AllP.n ?_
  refine zfU (F0:=[(12,.p (.lst 74 false (zM h.st p).length fun q=>zW (g q)))]) (z5j (i:=5) rfl (z8a rfl (Nat.le_refl _) (Nat.le_refl _) z3E)) rfl rfl rfl rfl rfl rfl rfl
   (fun S Z j vs h1 h2 h3=>zhN (b:=false) (l:=zR (zM h.st p) row) (by omega) S Z j vs h1 ((show AImps [.p (.lst 74 false (zM h.st p).length fun q=>zW (g q))] [.p (z0G false (zR (zM h.st p) row))] from ⟨z81 hrl hg2,trivial⟩).vrs h2) h3)
   (fun k hk=>rfl) ?_
  refine zb za false [] 200 rfl AllP.n ?_
  refine z1P rfl rfl rfl rfl rfl rfl rfl rfl ((zka (b1:=Nat.beq (zfB h p row).length 0) (b2:=b) (l:=zfB h p row) (m:=o) (by unfold zfB;rw [List.length_map];omega) ho)) ?_
  refine zb za false [] 200 rfl AllP.n ?_
  refine VSt.cond rfl (fun h1=>?_) (fun h1=>?_)
  ·have h1:(zfB h p row==o)=true:=h1
   refine zb za false [] 200 rfl AllP.n ?_
   refine .inr ⟨rfl,[],_,_,Vw.sub' (z5t z0d),rfl,?_,rfl⟩
   exact List.any_eq_true.2 ⟨row,List.mem_of_getElem? hq,h1⟩
  ·have h1:(zfB h p row==o)=false:=h1
   refine zb za false [] 200 rfl AllP.n ?_
   refine .inl ⟨rfl,[],_,Vw.sub' (z5t z0d),rfl,?_⟩
   rw [List.take_add_one,hq,List.any_append,hq1]
   show (false||((zfB h p row==o)||false))=false
   rw [h1];rfl
 ·rcases ha with ⟨lp,g1,X,rfl,rfl,hlt⟩ | ⟨lp,g1,X,e,G3,he,rfl,rfl,hrow,rfl⟩
  ·refine ⟨_,_,_,.normal,_,_,_,_,rfl,rfl,rfl,?_⟩
   refine zb za false [] 200 rfl AllP.n ?_
   refine EndsP.mk rfl rfl rfl ?_
   rw [List.take_length] at hlt
   rw [show zhy h p o=false from hlt];rfl
  ·refine ⟨_,_,_,.ret,_,_,_,_,rfl,rfl,rfl,?_⟩
   refine zb za false [] 200 rfl AllP.n ?_
   refine EndsP.mk rfl rfl rfl ?_
   rw [hrow];rfl
end Go.Proofs.YtdpipdniklognaaGreat
/- Walks of the reference: threaded, sews, Index, Has, broken. -/
set_option maxRecDepth 100000
namespace Go.Proofs.YtdpipdniklognaaGreat
variable {r:Rm}
def zij (b:Bool) (l:List Nat):PV:=z2F b (l.map Int.ofNat)
def zV (l:List Nat) (k:Nat):Nat:=l.getD k 0
theorem zd9 {l:List Nat} {k:Nat}:(l.map Int.ofNat).getD k 0=Int.ofNat (zV l k):=by
 unfold zV
 simp only [List.getD_eq_getElem?_getD,List.getElem?_map]
 cases l[k]? <;> rfl
def zqh (h:Hp) (s:Sht):Bool:=h.sw.any fun x=>x.too==s.id
def zqk (h:Hp) (s:Sht):Bool:=h.sw.any fun x=>x.fro==s.id
theorem zbg {b:Bool} {l:List Int} {n:Int} (hl:l.length<9223372036854775808):VP (sE r) 34 [.p (z2F b l),iv n] (iv (z8q l fun x=>x==n)):=by
 refine VP.of (fn:=Tryz.f34) za (zC rfl) (by kernel_rfl) rfl rfl rfl ?_
 refine VSt.go za false [] 200 rfl AllP.n ?_
 refine z2a (ti:=5) l.length [0,1] (fun _=>[]) (fun _=>[]) (fun k=>∀ q,q<k→(l.getD q 0==n)=false) rfl rfl z1k trivial none0 (fun k hk hp=>?_)
 refine VSt.go za false [] 200 rfl AllP.n ?_
 refine VSt.cond rfl (fun g=>?_) (fun g=>?_)
 ·have g:=nlt g
  refine VSt.go za false [] 200 rfl (AllP.c ‹_› (AllP.c rfl AllP.n)) ?_
  refine VSt.cond rfl (fun h1=>?_) (fun h1=>?_)
  ·have h1:(l.getD k 0==n)=true:=h1
   refine VSt.go za false [] 200 rfl AllP.n ?_
   refine EndsP.mk rfl rfl rfl ?_
   rw [zan (p:=fun x:Int=>x==n) g h1 hp];rfl
  ·have h1:(l.getD k 0==n)=false:=h1
   refine VSt.go za false [] 200 rfl (AllP.c (by unfold inR;(try simp only [Int.ofNat_eq_natCast]);omega) AllP.n) ?_
   exact ⟨g,by (refine Vw.drop (by repeat (first | exact zu | refine zq rfl rfl rfl ?_ | refine z0o rfl ‹_› (z07 _ ‹_›) ?_))),z0H hp h1⟩
 ·have g:k=l.length:=by have:=nge g;omega
  subst g
  refine VSt.go za false [] 200 rfl AllP.n ?_
  refine EndsP.mk rfl rfl rfl ?_
  rw [z8p (p:=fun x:Int=>x==n) hp];rfl
theorem zgY {b:Bool} {l:List Int} {n:Int} (hl:l.length<9223372036854775808):VP (sE r) 37 [.p (z2F b l),iv n] (bv (l.contains n)):=by
 have e:decide (0≤z8q l fun x=>x==n)=l.contains n:=by
  rcases z6u l (fun x=>x==n) with h | ⟨k,h⟩
  ·rw [h]
   have h2:=zam h
   have h3:l.contains n=false:=by
    rw [←Bool.not_eq_true,List.contains_iff_mem]
    intro hm
    rw [←h2] at hm
    have:=(List.mem_filter.1 hm).2
    rw [beq_self_eq_true] at this;cases this
   rw [h3];rfl
  ·obtain ⟨h1,h2,_⟩:=z6t h
   rw [h]
   have h3:l.contains n=true:=by
    rw [List.contains_iff_mem]
    have h4:l.getD k default∈l:=z0E h1
    rwa [eq_of_beq h2] at h4
   rw [h3]
   exact decide_eq_true (by simp only [Int.ofNat_eq_natCast];omega)
 refine VP.of (fn:=Tryz.f37) za (zC rfl) (by kernel_rfl) rfl rfl rfl ?_
 refine VSt.go za false [] 200 rfl AllP.n ?_
 refine VSt.pc rfl rfl rfl rfl rfl rfl rfl rfl ((zbg (b:=b) (n:=n) hl)) ?_
 refine VSt.go za false [] 200 rfl AllP.n ?_
 refine EndsP.mk rfl rfl rfl ?_
 show bv _=bv _
 rw [←e]
end Go.Proofs.YtdpipdniklognaaGreat
/- Walks of the reference: broken. -/
set_option maxRecDepth 100000
namespace Go.Proofs.YtdpipdniklognaaGreat
variable {r:Rm}
end Go.Proofs.YtdpipdniklognaaGreat
/- Walks of the reference: all orders without worm holes. -/
set_option maxRecDepth 100000
namespace Go.Proofs.YtdpipdniklognaaGreat
variable {r:Rm}
theorem zmU {a b:Nat} (h:a≠b):Nat.beq a b=false:=by rw [←Bool.not_eq_true];exact fun e=>h (Nat.eq_of_beq_eq_true e)
end Go.Proofs.YtdpipdniklognaaGreat
/- Walks of the reference: runs, orders. -/
set_option maxRecDepth 100000
namespace Go.Proofs.YtdpipdniklognaaGreat
variable {r:Rm}
def znf (l:List Sht) (p:Int):Nat→List Nat
 | 0=>[]
 | k+1=>bif (zo l k).paper==p then znf l p k++[k] else znf l p k
theorem zjT {l:List Sht} {p:Int}:∀ k,k≤l.length→(znf l p k).map (fun i=>zo l i)=(l.take k).filter fun s=>s.paper==p
 | 0,_=>by simp [znf]
 | k+1,hk=>by
  have ih:=zjT (l:=l) (p:=p) k (by omega)
  rw [z3k l _ (by omega),←ih]
  show ((bif (zo l k).paper==p then znf l p k++[k] else znf l p k).map _)=(bif (zo l k).paper==p then _ else _)
  cases (zo l k).paper==p with
  | true=>rw [cond_true,cond_true,List.map_append];rfl
  | false=>rfl
end Go.Proofs.YtdpipdniklognaaGreat
/- Walks of the reference: orders, some, Order, Count, Nth. -/
set_option maxRecDepth 100000
namespace Go.Proofs.YtdpipdniklognaaGreat
variable {r:Rm}
end Go.Proofs.YtdpipdniklognaaGreat
/- Plain: the reference's orders are the program's. -/
set_option maxRecDepth 100000
namespace Go.Proofs.YtdpipdniklognaaGreat
end Go.Proofs.YtdpipdniklognaaGreat
/- Walks: Order, Count, Nth, CheckOrder of both sides. -/
set_option maxRecDepth 100000
namespace Go.Proofs.YtdpipdniklognaaGreat
variable {r:Rm}
noncomputable def zm0 (h:Hp) (p:Int):Int:=if ppE h p=0 then (if 0<(z2T h p).length then 0 else 55) else ppE h p
noncomputable def zhb (h:Hp) (p:Int):List Int:=if ppE h p=0 then zhq h p 0 else []
theorem zha {h:Hp} {p:Int} (e:¬ ppE h p=0):zm0 h p=ppE h p∧zhb h p=[]:=⟨if_neg e,if_neg e⟩
theorem zkA {h:Hp} {p:Int} (hz:SzH h):VP (sE r) 39 [.agg ((eHp h).map .p),iv p] (.tup [.p (eL (zhb h p)),iv (zm0 h p)]):=by
 have hc:=z4x (r:=r) (p:=p) hz
 rcases z5z h p with ⟨hO,e⟩ | e
 rotate_left
 ·rw [(zha (zcV e)).1,(zha (zcV e)).2]
  refine VP.of (fn:=Tryz.f39) za (zC rfl) (by kernel_rfl) rfl rfl rfl ?_
  refine VSt.go za false [] 200 rfl AllP.n ?_
  refine zf (z00 0 (eHp h) rfl rfl) ?_
  refine VSt.pc rfl rfl rfl rfl rfl rfl rfl rfl (hc) ?_
  refine VSt.go za false [] 200 rfl AllP.n ?_
  refine VSt.cond rfl (fun _=>?_) (fun q=>absurd (q.symm.trans e) (by decide))
  refine VSt.go za false [] 200 rfl AllP.n ?_
  refine ⟨rfl,_,rfl,rfl,?_⟩
  exact AImp.tup ⟨AImp.nil,AImp.refl _,trivial⟩
 rw [show zm0 h p=(if 0<(z2T h p).length then 0 else 55) from if_pos e,show zhb h p=zhq h p 0 from if_pos e]
 rw [e] at hc
 refine VP.of (fn:=Tryz.f39) za (zC rfl) (by kernel_rfl) rfl rfl rfl ?_
 refine VSt.go za false [] 200 rfl AllP.n ?_
 refine zf (z00 0 (eHp h) rfl rfl) ?_
 refine VSt.pc rfl rfl rfl rfl rfl rfl rfl rfl (hc) ?_
 refine VSt.go za false [] 200 rfl AllP.n ?_
 refine VSt.cond rfl (fun q=>absurd q (by decide)) (fun _=>?_)
 refine VSt.go za false [] 200 rfl AllP.n ?_
 refine VSt.pc rfl rfl rfl rfl rfl rfl rfl rfl ((znY (p:=p) (m:=0) hz hO (by decide))) ?_
 refine VSt.go za false [] 200 rfl AllP.n ?_
 refine VSt.cond rfl (fun q=>?_) (fun q=>?_)
 ·have q:(!decide (0<(z2T h p).length))=true:=q
  have q2:¬ 0<(z2T h p).length:=by simpa using q
  rw [if_neg q2,zhp (by omega)]
  refine VSt.go za false [] 200 rfl AllP.n ?_
  refine ⟨rfl,_,rfl,rfl,?_⟩
  exact AImp.tup ⟨AImp.nil,AImp.refl _,trivial⟩
 ·have q:(!decide (0<(z2T h p).length))=false:=q
  have q2:0<(z2T h p).length:=by simpa using q
  rw [if_pos q2]
  refine VSt.go za false [] 200 rfl AllP.n ?_
  exact EndsP.mk rfl rfl rfl rfl
end Go.Proofs.YtdpipdniklognaaGreat
/- Walks: Nth of both sides, CheckOrder of the program. -/
set_option maxRecDepth 100000
namespace Go.Proofs.YtdpipdniklognaaGreat
variable {r:Rm}
noncomputable def zok (h:Hp) (p:Int) (o:List Int):Int:=if ppE h p=0 then (bif zhy h p o then 0 else 52) else ppE h p
theorem zaP {h:Hp} {p:Int} {b:Bool} {o:List Int} (hz:SzH h) (ho:o.length<9223372036854775808):VP (sE r) 33 [.agg ((eHp h).map .p),iv p,.p (z2F b o)] (iv (zok h p o)):=by
 have hc:=z4x (r:=r) (p:=p) hz
 rcases z5z h p with ⟨hO,e⟩ | e
 rotate_left
 ·rw [show zok h p o=ppE h p from if_neg (zcV e)]
  refine VP.of (fn:=Tryz.f33) za (zC rfl) (by kernel_rfl) rfl rfl rfl ?_
  refine VSt.go za false [] 200 rfl AllP.n ?_
  refine zf (z00 0 (eHp h) rfl rfl) ?_
  refine VSt.pc rfl rfl rfl rfl rfl rfl rfl rfl (hc) ?_
  refine VSt.go za false [] 200 rfl AllP.n ?_
  refine VSt.cond rfl (fun _=>?_) (fun q=>absurd (q.symm.trans e) (by decide))
  refine VSt.go za false [] 200 rfl AllP.n ?_
  exact EndsP.mk rfl rfl rfl rfl
 rw [show zok h p o=(bif zhy h p o then 0 else 52) from if_pos e]
 rw [e] at hc
 refine VP.of (fn:=Tryz.f33) za (zC rfl) (by kernel_rfl) rfl rfl rfl ?_
 refine VSt.go za false [] 200 rfl AllP.n ?_
 refine zf (z00 0 (eHp h) rfl rfl) ?_
 refine VSt.pc rfl rfl rfl rfl rfl rfl rfl rfl (hc) ?_
 refine VSt.go za false [] 200 rfl AllP.n ?_
 refine VSt.cond rfl (fun q=>absurd q (by decide)) (fun _=>?_)
 refine VSt.go za false [] 200 rfl AllP.n ?_
 refine VSt.pc rfl rfl rfl rfl rfl rfl rfl rfl ((zfy (p:=p) (b:=b) (o:=o) hz hO ho)) ?_
 refine VSt.go za false [] 200 rfl AllP.n ?_
 refine VSt.cond rfl (fun q=>?_) (fun q=>?_)
 ·have q:(!zhy h p o)=true:=q
  rw [show zhy h p o=false by simpa using q]
  refine VSt.go za false [] 200 rfl AllP.n ?_
  exact EndsP.mk rfl rfl rfl rfl
 ·have q:(!zhy h p o)=false:=q
  rw [show zhy h p o=true by simpa using q]
  refine VSt.go za false [] 200 rfl AllP.n ?_
  exact EndsP.mk rfl rfl rfl rfl
end Go.Proofs.YtdpipdniklognaaGreat
/- Walks of the reference: isOrder. -/
set_option maxRecDepth 100000
namespace Go.Proofs.YtdpipdniklognaaGreat
variable {r:Rm}
def ixI (h:Hp) (id:Int):Int:=z8q h.st fun s=>s.id==id
def zqA (h:Hp) (o:List Int) (k:Nat):List Int:=(o.take k).map (ixI h)
def zq3 (l:List Int) (k:Nat):Int:=l.getD k 0
def g1 (h:Hp) (p:Int) (o:List Int) (i:Nat):Bool:=(zqw h.st p).contains (zq3 o i) && !(zqA h o i).contains (ixI h (zq3 o i))
def zqy (h:Hp) (by_:List Nat):Nat→Bool
 | 0=>zqh h (zo h.st (zV by_ 0))
 | m+1=>!zp3 h (zV by_ m) (zV by_ (m+1)) (zo h.st (zV by_ m)) (zo h.st (zV by_ (m+1)))
def zqx (h:Hp) (by_:List Nat) (k:Nat):Bool:=Nat.beq (k+1) by_.length&&zqk h (zo h.st (zV by_ k))
def g2 (h:Hp) (by_:List Nat) (k:Nat):Bool:=!(zqy h by_ k||zqx h by_ k)
end Go.Proofs.YtdpipdniklognaaGreat
/- Plain: whether a list is an order is the same on both sides. -/
set_option maxRecDepth 100000
namespace Go.Proofs.YtdpipdniklognaaGreat
end Go.Proofs.YtdpipdniklognaaGreat
/- Walks: Hole of both sides, CheckOrder of the reference. -/
set_option maxRecDepth 100000
namespace Go.Proofs.YtdpipdniklognaaGreat
variable {r:Rm}
end Go.Proofs.YtdpipdniklognaaGreat
/- The law LeafOrders. -/
set_option maxRecDepth 100000
namespace Go.Proofs.YtdpipdniklognaaGreat
variable {r:Rm}
theorem zhZ {h:Hp} {l:List Sht}:∀ f {row0 row:List Nat},row∈z8Q h l f row0→row.length=f+row0.length
 | 0,row0,row,hm=>by
  have hm:row∈[row0]:=hm
  rw [List.mem_singleton.1 hm,Nat.zero_add]
 | f+1,row0,row,hm=>by
  obtain ⟨i,_,hx⟩:=List.mem_flatMap.1 hm
  cases hk:okR h l row0 i with
  | false=>rw [hk] at hx;cases hx
  | true =>
   rw [hk] at hx
   have:=zhZ f hx
   rw [List.length_cons] at this
   omega
theorem zjM {h:Hp} (hO:OkH h) {p:Int} {m:Nat}:(zhq h p m).length<9223372036854775808:=by
 cases e:(z2T h p)[m]? with
 | none=>unfold zhq;rw [e];show ([]:List Int).length<9223372036854775808;decide
 | some row =>
  rw [zd7 e]
  unfold zfB
  rw [List.length_map,z2I,zhZ _ (List.mem_filter.1 (List.mem_of_getElem? e)).1]
  have:=z5Q hO p
  show (zM h.st p).length+0<_
  omega
theorem zaO {E:Env} {f:FuncId} (hk:z2E E f []=true):VP E f [] (bv true) :=
 ⟨rfl,fun S Z j vs hS hv hl=>by
  cases hv
  exact ⟨1,.bool true,S,fun m hm=>by
   obtain ⟨k,rfl,_⟩:=zh hm
   show bf (z2E E f []) _ _=_
   rw [hk];rfl,bv true,[],Z,j,hS,.p (.bool true),Ex.refl _ _ _,hl,Stay.refl _ _,rfl,rfl⟩⟩
theorem zjy {h:Hp} {p:Int}:(zhb h p).length<9223372036854775808:=by
 rcases z5z h p with ⟨hO,e⟩ | e
 ·rw [show zhb h p=zhq h p 0 from if_pos e];exact zjM hO
 ·rw [show zhb h p=[] from if_neg (zcV e)];decide
end Go.Proofs.YtdpipdniklognaaGreat
/- Walks: sets of holes that orders break (a map), and whether some holes meet each of them. -/
set_option maxRecDepth 100000
namespace Go.Proofs.YtdpipdniklognaaGreat
variable {r:Rm}
def zcv (M:List Nat):Nat→Option PV:=fun k=>bif M.contains k then some (.bool true) else none
theorem zf0 {m k:Nat} (hm:m<9223372036854775808) (hk:k<9223372036854775808):zg3 (Int.ofNat m) (Int.ofNat k)=Int.ofNat (m &&& k):=by
 have h1:(BitVec.ofInt 64 (Int.ofNat m) &&& BitVec.ofInt 64 (Int.ofNat k)).toNat=m &&& k:=by
  rw [z11,z11,BitVec.toNat_and,z1u (by omega),z1u (by omega)]
 have h2:m &&& k≤m:=Nat.and_le_left
 show IntKind.i64.wrap (Int.ofNat (BitVec.ofInt 64 (Int.ofNat m) &&& BitVec.ofInt 64 (Int.ofNat k)).toNat)=_
 rw [z4I _ (by rw [h1];omega),h1]
def zY (M:List Nat) (a:Nat):Bool:=M.all fun k=>!(a &&& k==0)
theorem z7q {S:St} {Z:Nat→Prop} {j:Nm} {L:VS} {i a:Nat} {m:Option Nat} {M:List Nat} {vs:List Value} (hS:SR (sE r) S Z j L) (hvs:VRs (sE r) S Z j [.map i,iv (Int.ofNat a)] vs) (hb:bk L i=some (.mapA m (zcv M) [])) (ha:a<9223372036854775808) (hM:∀ k∈M,k<9223372036854775808) :
  ∃ v n,(∀ k,n≤k→(Proofs.YtdpipdniklognaaGreat.run (sE r) k).call 85 vs S=some (v,S))∧VR (sE r) S Z j (bv (zY M a)) v:=by
 cases hvs with
 | cons h1 hl =>
  cases hl with
  | cons h2 hl =>
   cases hl
   cases h1 with
   | map hj =>
    rename_i b
    cases h2 with
    | p h2 =>
     cases h2
     obtain ⟨b0,hj0,l,g1,⟨g2,_⟩,g3⟩:=hS.blk i _ hb (by intro h;cases h)
     rw [hj] at hj0;cases hj0
     have hmem:∀ k v,(k,v)∈l→k∈M∧v = .bool true:=fun k v hkv=>by
      have e1:=zbB g2 hkv
      obtain ⟨e2,e3⟩:=g3 k
      have e4:(zcv M k).isSome=true:=by
       have:(z0O k l).isSome=(zcv M k).isSome:=e2
       rw [←this,e1];rfl
      have e5:M.contains k=true:=by
       cases hc:M.contains k with
       | true=>rfl
       | false=>unfold zcv at e4;rw [hc] at e4;cases e4
      have e6:VR (sE r) S Z j (.p ((zcv M k).getD .nilp)) v:=e3 v e1
      unfold zcv at e6
      rw [e5] at e6
      refine ⟨List.contains_iff_mem.1 e5,?_⟩
      cases e6 with
      | p h=>cases h;rfl
     have hin:∀ k,k∈M→∃ v,(k,v)∈l:=fun k hk=>by
      have e2:(z0O k l).isSome=(zcv M k).isSome:=(g3 k).1
      have e4:(zcv M k).isSome=true:=by unfold zcv;rw [List.contains_iff_mem.2 hk];rfl
      rw [e4] at e2
      obtain ⟨v,hv⟩:=Option.isSome_iff_exists.1 e2
      exact ⟨v,z9i hv⟩
     have e1:((z3U l).all fun p=>z6R p.1&&z6r p.2)=true:=by
      rw [List.all_eq_true]
      intro q hq
      obtain ⟨p,hp,rfl⟩:=List.mem_map.1 hq
      have:=(hmem p.1 p.2 hp).2
      show (true&&z6r p.2)=true
      rw [this];rfl
     have e2:((z3U l).all fun p=>zg3 (Int.ofNat a) (zl0 p.1) != 0)=zY M a:=by
      unfold zY
      rw [Bool.eq_iff_iff,List.all_eq_true,List.all_eq_true]
      constructor
      ·intro h k hk
       obtain ⟨v,hv⟩:=hin k hk
       have:=h _ (List.mem_map.2 ⟨(k,v),hv,rfl⟩)
       have:(zg3 (Int.ofNat a) (Int.ofNat k) != 0)=true:=this
       rw [zf0 ha (hM k hk)] at this
       rw [←z1I];exact this
      ·intro h q hq
       obtain ⟨p,hp,rfl⟩:=List.mem_map.1 hq
       have hk:=(hmem p.1 p.2 hp).1
       have:=h _ hk
       show (zg3 (Int.ofNat a) (Int.ofNat p.1) != 0)=true
       rw [zf0 ha (hM _ hk)]
       rw [←z1I] at this;exact this
     refine ⟨.bool (zY M a),1,fun k hk=>?_,.p (.bool _)⟩
     obtain ⟨k,rfl,_⟩:=zh hk
     have hh:z2E (sE r) 85 [.map (some b),.int .i64 (Int.ofNat a)]=false:=by
      obtain ⟨t,q⟩:=r
      cases q <;> rfl
     show bf (z2E (sE r) 85 [.map (some b),.int .i64 (Int.ofNat a)]) _ _=_
     rw [hh]
     show ob (ob (ob (S.heap.get b) z9j) fun es=>gd (es.all fun p=>z6R p.1&&z6r p.2) (some (Value.bool (es.all fun p=>zg3 (Int.ofNat a) (zl0 p.1) != 0)))) (fun v=>some (v,S))=_
     rw [g1]
     show ob (gd ((z3U l).all fun p=>z6R p.1&&z6r p.2) (some (Value.bool ((z3U l).all fun p=>zg3 (Int.ofNat a) (zl0 p.1) != 0)))) (fun v=>some (v,S))=_
     rw [e1,e2];rfl
def zZ (h:Hp) (p:Int):List Nat:=((zbd h (zM h.st p)).filter fun row=>zdZ h (zR (zM h.st p) row)).map fun row=>z3O (zR (zM h.st p) row) 12
def zlh (h:Hp) (p:Int) (q:Nat):List Nat:=(((zbd h (zM h.st p)).take q).filter fun row=>zdZ h (zR (zM h.st p) row)).map fun row=>z3O (zR (zM h.st p) row) 12
set_option maxHeartbeats 8000000 in
theorem zcf {h:Hp} {p:Int} (hz:SzH h) (hO:OkH h):VC (sE r) [] 83 [.agg ((eHp h).map .p),iv p] [] (fun a L'=>a = .map 0∧L'=[(0,.mapA none (zcv (zZ h p)) [])]):=by
 have hb7:=z5Q hO p
 have hsw:=hO.sw
 have hst:=hO.st
 refine z3Q (fn:=Tryz.f83) za (zC rfl) (by kernel_rfl) rfl rfl ?_
 refine VSt.go za false [7] 200 rfl AllP.n ?_
 refine zf (z00 0 (eHp h) rfl rfl) ?_
 refine VSt.go za false [] 200 rfl AllP.n ?_
 refine z1P rfl rfl rfl rfl rfl rfl rfl rfl ((zcb (h:=h) (p:=p) hz (by omega))) ?_
 refine VSt.go za false [] 200 rfl AllP.n ?_
 refine z1P rfl rfl rfl rfl rfl rfl rfl rfl ((rows_ok (h:=h) (b:=h.stB) (l:=zM h.st p))) ?_
 refine VSt.go za false [] 200 rfl AllP.n ?_
 refine zl (Vw.kp [2,4,5,12] [(11,1),(10,0)] rfl) ?_
 refine z15 0 (s5 [10,11]) rfl rfl rfl rfl rfl
  (zec (by omega) (by omega) [10,11] (fun q X=>∃ m f,X=[(11,.cells [.map 10] 108),(10,.mapA m f [])]∧∀ k,f k=zcv (zlh h p q) k) (fun _ _=>False)
   (fun i hi=>by show bk [(11,_),(10,_)] i=none;rw [zx,if_neg (by omega),zx,if_neg (by omega)];rfl) ⟨_,_,rfl,fun _=>rfl⟩ rfl ?_) (fun a L' ha=>?_)
 ·rintro q row g X hq hn hg ⟨m,f,rfl,hf⟩
  have hrl:(zM h.st p).length=(zR (zM h.st p) row).length:=by rw [z2I,hn]
  have hg2:∀ k,k<(zM h.st p).length→g k=zo (zR (zM h.st p) row) k:=fun k hk=>hg k (by omega)
  have hmem:=List.mem_of_getElem? hq
  have hbit:=zgT hO (zeb hmem)
  have hnx:zlh h p (q+1)=zlh h p q++bif zdZ h (zR (zM h.st p) row) then [z3O (zR (zM h.st p) row) 12] else []:=by
   unfold zlh
   rw [List.take_add_one,hq,List.filter_append,List.map_append]
   cases hc:zdZ h (zR (zM h.st p) row) <;> simp [hc]
  unfold z6J
  refine zb za false [] 200 rfl AllP.n ?_
  refine ⟨rfl,_,rfl,?_⟩
  refine zb za false [] 200 rfl AllP.n ?_
  refine z4q (F0:=[(14,.agg ((eHp h).map .p)),(15,.p (.lst 74 false (zM h.st p).length fun q=>zW (g q)))]) (z5j (i:=5) rfl (zkY rfl rfl (z8a rfl (Nat.le_refl _) (Nat.le_refl _) z3E))) rfl rfl rfl rfl rfl rfl rfl
   (VP.imp (z97 (h:=h) (b:=false) (l:=zR (zM h.st p) row) (by omega) (by omega)) ⟨AImp.refl _,z81 hrl hg2,trivial⟩) rfl ?_
  refine zb za false [] 200 rfl AllP.n ?_
  refine VSt.cond rfl (fun h1=>?_) (fun h1=>?_)
  rotate_left
  ·have h1:zdZ h (zR (zM h.st p) row)=false:=h1
   refine zb za false [] 200 rfl AllP.n ?_
   refine .inl ⟨rfl,[],g,_,Vw.sub' (z5t z0d),hg,_,_,rfl,fun k=>?_⟩
   rw [hf,hnx,h1,cond_false,List.append_nil]
  have h1:zdZ h (zR (zM h.st p) row)=true:=h1
  refine zb za false [] 200 rfl AllP.n ?_
  refine z9G (F0:=[(18,.p (.lst 74 false (zM h.st p).length fun q=>zW (g q)))]) (z5j (i:=5) rfl (z8a rfl (Nat.le_refl _) (Nat.le_refl _) z3E)) rfl rfl rfl rfl rfl rfl rfl
   (VP.imp (zcd (b:=false) (l:=zR (zM h.st p) row) (by omega) hbit) ⟨z81 hrl hg2,trivial⟩) rfl ?_
  refine zb za false [] 200 rfl AllP.n ?_
  refine .inl ⟨rfl,[],g,_,Vw.sub' (z5t z0d),hg,_,_,rfl,fun k=>?_⟩
  show (bif Nat.beq (z3O (zR (zM h.st p) row) 12) k then some (PV.bool true) else f k)=_
  rw [hf,hnx,h1,cond_true]
  unfold zcv
  cases hb:Nat.beq (z3O (zR (zM h.st p) row) 12) k with
  | true =>
   rw [List.contains_iff_mem.2 (show k∈zlh h p q++[z3O (zR (zM h.st p) row) 12] from List.mem_append.2 (.inr (List.mem_singleton.2 (Nat.eq_of_beq_eq_true hb).symm)))];rfl
  | false =>
   have e:(zlh h p q++[z3O (zR (zM h.st p) row) 12]).contains k=(zlh h p q).contains k:=by
    rw [Bool.eq_iff_iff,List.contains_iff_mem,List.contains_iff_mem,List.mem_append,List.mem_singleton]
    constructor
    ·rintro (h | rfl)
     ·exact h
     ·rw [show Nat.beq (z3O (zR (zM h.st p) row) 12) (z3O (zR (zM h.st p) row) 12)=true from Nat.beq_refl _] at hb;cases hb
    ·exact .inl
   rw [e];rfl
 ·rcases ha with ⟨g1,X1,rfl,m,f,rfl,hf⟩ | ⟨g1,X1,e,G3,he,rfl,hJ⟩
  rotate_left
  ·exact hJ.elim
  refine ⟨_,_,_,.normal,_,_,_,_,rfl,rfl,rfl,?_⟩
  refine zb za false [4] 200 rfl AllP.n ?_
  refine zf (zN (ps:=[(0,10)]) (F0:=[(20,.map 0)]) (L0:=[(0,.mapA none (zcv (zZ h p)) [])]) ⟨rfl,rfl,(by repeat (first | exact zu | refine zq rfl rfl rfl ?_)),_,rfl,⟨rfl,ziY (.inr rfl) (fun k=>?_),trivial⟩⟩) ?_
  ·rw [hf];unfold zlh zZ;rw [List.take_length]
  refine VSt.go za false [] 200 rfl AllP.n ?_
  exact ⟨rfl,_,rfl,rfl,rfl⟩
end Go.Proofs.YtdpipdniklognaaGreat
/- Walks: sets of holes, lists of holes in order. -/
set_option maxRecDepth 100000
namespace Go.Proofs.YtdpipdniklognaaGreat
variable {r:Rm}
def zS (l:List Nat):Nat:=l.foldl (fun m k=>m ||| 1 <<< k) 0
theorem zgP (l:List Nat) (k:Nat):zS (l++[k])=zS l ||| 1 <<< k:=by unfold zS;rw [List.foldl_append];rfl
theorem zgO {l:List Nat} {k:Nat} (h:k<l.length):zS (l.take (k+1))=zS (l.take k) ||| 1 <<< zV l k:=by
 rw [List.take_add_one,show l[k]? = some (zV l k) by rw [List.getElem?_eq_getElem h];exact congrArg some (z0f h).symm]
 exact zgP _ _
theorem z7L:∀ (l:List Nat),(∀ k∈l,k<12)→zS l<4096:=by
 intro l
 have key:∀ (l:List Nat) (m:Nat),m<4096→(∀ k∈l,k<12)→l.foldl (fun m k=>m ||| 1 <<< k) m<4096:=by
  intro l
  induction l with
  | nil=>intro m hm _;exact hm
  | cons a l ih =>
   intro m hm h
   refine ih _ ?_ fun k hk=>h k (List.mem_cons_of_mem _ hk)
   refine Nat.or_lt_two_pow (n:=12) hm ?_
   rw [Nat.one_shiftLeft];exact Nat.pow_lt_pow_right (by decide) (h a List.mem_cons_self)
 exact key l 0 (by decide)
theorem zgK {b:Bool} {l:List Nat} (hl:l.length≤1000) (h:∀ k∈l,k<12):VP (sE r) 86 [.p (zij b l)] (iv (Int.ofNat (zS l))):=by
 have hlm:(l.map Int.ofNat).length=l.length:=List.length_map _
 refine VP.of (fn:=Tryz.f86) za (zC rfl) (by kernel_rfl) rfl rfl rfl ?_
 refine VSt.go za false [] 200 rfl AllP.n ?_
 refine z0r za (l.map Int.ofNat).length (by omega) [6] (fun k=>[(3,iv (Int.ofNat (zS (l.take k))))]) (fun _=>[]) (fun _=>True) rfl rfl rfl (fun _=>rfl) rfl rfl (z2R rfl (AImp.refl _) z1k) trivial trivial (fun k hk _=>?_) (fun _=>?_)
 ·have hk2:k<l.length:=by omega
  have h12:zV l k<12:=h _ (z0E hk2)
  have hlt:zS (l.take k)<4096:=z7L _ fun i hi=>h i (List.mem_of_mem_take hi)
  refine VSt.go za false [5] 200 rfl (AllP.c ‹_› (AllP.c rfl AllP.n)) ?_
  refine z06 11 (nv (zV l k)) rfl (z2d zd9) ?_
  refine VSt.go za false [] 200 rfl AllP.n ?_
  refine VSt.pc rfl rfl rfl rfl rfl rfl rfl rfl ((zcz (m:=zS (l.take k)) (k:=zV l k) (by omega) (by omega))) ?_
  refine VSt.go za false [] 200 rfl AllP.n ?_
  refine ⟨?_,trivial⟩
  dsimp only
  rw [zgO hk2]
  (refine Vw.drop (by repeat (first | exact zu | refine zq rfl rfl rfl ?_ | refine z0o rfl ‹_› (z07 _ ‹_›) ?_)))
 ·refine VSt.go za false [] 200 rfl AllP.n ?_
  refine EndsP.mk rfl rfl rfl ?_
  rw [hlm,List.take_length];rfl
theorem ziq {l:List Int} (hn:l.length<1000000):VP (sE r) 87 [.p (eL l)] (.p (eL l)):=by
 refine VP.of (fn:=Tryz.f87) za (zC rfl) (by kernel_rfl) rfl rfl rfl ?_
 refine VSt.go za false [] 200 rfl AllP.n ?_
 refine VSt.cond rfl (fun h=>?_) (fun h=>?_)
 ·have h:l.isEmpty=true:=h
  have e:=List.isEmpty_iff.1 h
  subst e
  refine VSt.go za false [] 200 rfl AllP.n ?_
  exact ⟨rfl,_,rfl,rfl,AImp.nil⟩
 ·have h:l.isEmpty=false:=h
  have h0:0<l.length:=List.length_pos_iff.2 fun g=>by rw [g] at h;cases h
  unfold eL
  rw [h]
  refine VSt.go za false [2] 200 rfl (AllP.c ‹_› (AllP.c (by omega) (AllP.c (fun _ _=>rfl) (AllP.c rfl (AllP.c rfl (AllP.c (by omega) (AllP.c (by omega) AllP.n))))))) ?_
  refine zf (zN (ps:=[(0,1)]) (F0:=[(7,.acc true 0 1 l.length)]) (L0:=[(0,.acc l.length 1 (fL l) 3)]) ⟨rfl,rfl,z1B rfl rfl (z6F h0 (Nat.zero_add _) (Nat.zero_add _)) zu,_,rfl,⟨rfl,z5m (Nat.zero_add _) (fun q _=>rfl),trivial⟩⟩) ?_
  refine zf (z1s 0 rfl rfl ⟨Nat.le_refl _,rfl⟩) ?_
  refine VSt.go za false [] 200 rfl AllP.n ?_
  refine EndsP.mk rfl rfl rfl ?_
  rw [zf2 rfl];unfold eL;rw [h];rfl
theorem zjR {m:Nat}:VP (sE r) 84 [nv m] (.fn 134 [] [.p (.fp [.int .i64 (Int.ofNat m)] 0)]):=by
 refine VP.of (fn:=Tryz.f84) za (zC rfl) (by kernel_rfl) rfl rfl rfl ?_
 refine VSt.go za false [2] 200 rfl AllP.n ?_
 refine zf (z00 0 [.int .i64 (Int.ofNat m)] rfl rfl) ?_
 refine VSt.go za false [] 200 rfl AllP.n ?_
 exact EndsP.mk rfl rfl rfl rfl
end Go.Proofs.YtdpipdniklognaaGreat
/- Walks: the step of the iterator of lists of holes. -/
set_option maxRecDepth 100000
namespace Go.Proofs.YtdpipdniklognaaGreat
variable {r:Rm}
def scan {α : Type} (g:Nat→Option α):Nat→Nat→Option α
 | 0,_=>none
 | c+1,k=>match g k with
  | some x=>some x
  | none=>scan g c (k+1)
theorem zb9 {α : Type} {g:Nat→Option α}:∀ c {k},(∀ i,i<c→g (k+i)=none)→scan g c k=none
 | 0,_,_=>rfl
 | c+1,k,h=>by
  show (match g k with | some x=>some x | none=>scan g c (k+1))=none
  rw [show g k=none from h 0 (Nat.succ_pos _)]
  exact zb9 c fun i hi=>by rw [show k+1+i=k+(i+1) by omega];exact h (i+1) (by omega)
theorem zb8 {α : Type} {g:Nat→Option α} {x : α}:∀ c {k} d,d<c→(∀ i,i<d→g (k+i)=none)→g (k+d)=some x→scan g c k=some x
 | 0,_,_,h,_,_=>absurd h (Nat.not_lt_zero _)
 | c+1,k,d,h,hn,hs=>by
  show (match g k with | some x=>some x | none=>scan g c (k+1))=some x
  cases d with
  | zero=>rw [show g k=some x from hs]
  | succ d =>
   rw [show g k=none from hn 0 (Nat.succ_pos _)]
   exact zb8 c d (by omega) (fun i hi=>by rw [show k+1+i=k+(i+1) by omega];exact hn (i+1) (by omega)) (by rw [show k+1+d=k+(d+1) by omega];exact hs)
def fnd (P:List Nat→Bool):Nat→Nat→List Nat→Option (List Nat)
 | 0,_,pre=>bif P pre then some pre else none
 | f+1,k,pre=>scan (fun i=>fnd P f (i+1) (pre++[i])) (12 - k) k
def stepG (m:Nat):AV:=.fn 135 [] [.ref 2 0,.p (.fp [.int .i64 (Int.ofNat m)] 0),.ref 1 0,.ref 4 0]
def lsV (n:Nat):Nat→AV
 | 0=>.p (.lst 3 true 0 fun _=>[])
 | c+1=>.sl 5 1 0 n (c+1) 0
def lsB (g:Nat→Nat) (X:VS):Nat→VS
 | 0=>X
 | c+1=>(5,.arr (c+1) 1 (fun q=>[.int .i64 (Int.ofNat (g q))]) 3)::X
def lsM (m:Nat) (lp:VB) (n c:Nat) (g:Nat→Nat) (X:VS):VS :=
 (0,lp)::(1,.cells [.yld 0] 155)::(2,.cells [lsV n c] 37)::(4,.cells [stepG m] 119)::lsB g X c
abbrev s4 (s:List Nat):List Nat:=0::1::2::4::s
abbrev s45 (s:List Nat):List Nat:=0::1::2::4::5::s
theorem zcm {b:Nat}:∀ {F:VK} {t:Nat} {a:AV},ak F t=some a→ak (z2v b F) t=some (purgeA b a)
 | [],t,a,h=>by cases h
 | (s,x)::l,t,a,h=>by
  simp only [z2v,ak] at h ⊢
  cases hb:Nat.beq s t with
  | true=>rw [hb] at h;cases h;rfl
  | false=>rw [hb] at h;exact zcm h
theorem zqt {E:Env} {F:VK} {L:VS} {tb:Tab} {c:Call} {t elem esz n k:Nat} {sz0:Nat} {ag0:Bool} {zs0:List PV} (hT:zH E tb=true) (hc:c.callee = .builtin .len) (ht:c.argTypes.toList=[t]) (hi0:y5 tb t=some ⟨sz0,ag0,.slice elem esz,zs0⟩) (ha:avs F c.args.toList=some [lsV n k]) (h0:k=0→n=0):PureA E F L (.call c) (nv n):=fun T S Z j hS hF=>by
 refine zaX (L:=L) (obs:=[]) hT ?_ hS hF
 unfold zdV
 rw [hc,ht,ha]
 show zns tb L t (lsV n k)=_
 unfold zns
 rw [hi0]
 cases k with
 | zero=>rw [h0 rfl];rfl
 | succ k=>rfl
theorem z8O {E:Env} {F:VK} {L:VS} {tb:Tab} {o:Op} {a:AV} (hT:zH E tb=true) (h:zkH tb F L o=some ([],a)):PureA E F L o a:=fun _ _ _ _ hS hF=>zgi hT h (fun _ h=>by cases h) hS hF
theorem ziU {N:Nat} {st:List Nat} {rd:Option Nat} {Q:zI} {F F1:VK} {ops:Array Oper} {o:Oper} {rest:List Oper} {K:List KI} {c:Call} {m n cc x ty:Nat} {nb:Bool} {g:Nat→Nat} {X:VS} {f:Nat→List PV} {N2:Nat} {G:VK} {ps:List Tmp} {asg body:Code} (hg:vgl ops F o.guard=some true) (hd:zB o.dst N=true) (hop:o.op = .call c) (hc:c.callee = .builtin .append) (ht:c.argTypes.toList=[37,37])
  (ha:avs F c.args.toList=some [lsV n cc,.p (.lst ty nb 1 f)]) (hf:f 0=[.int .i64 (Int.ofNat x)]) (hn:n≤cc) (hcc:cc≤1000) (hX:bk X 5=none) (hX2:z1m 5 (rm X 5)=X) (hG:z2v 5 G=G) (hst:(st.all fun k=>!Nat.beq k 5)=true)
  (hF1:∀ p∈F1,ak F p.1=some p.2∧purgeA 5 p.2=p.2)
  (h:∀ c2 g2,n+1≤c2→(c2=cc∨c2=n+1)→(∀ q,q≤n→g2 q=if q=n then x else g q)→VSt.H (sE r) N st rd Q (.ops ops rest K (zG o.dst (lsV (n+1) c2) F1) ((0,.loop .ready none G N2 ps asg body)::(1,.cells [.yld 0] 155)::(2,.cells [.junk] 37)::(4,.cells [stepG m] 119)::lsB g2 X c2))) :
  VSt.H (sE r) N st rd Q (.ops ops (o::rest) K F (lsM m (.loop .ready none G N2 ps asg body) n cc g X)):=by
 have o3:∀ i,i<1→(f i).length=1:=fun i hi=>by
  have:i=0:=by omega
  rw [this,hf];rfl
 have hj:∀ a:AV,AImp a .junk:=fun a _ _ _ _ v _=>.junk v
 have hsub:∀ {F2:VK} {a:AV},(∀ p∈F1,ak F2 p.1=some p.2)→∀ t b,ak (zG o.dst a F1) t=some b→ak (zG o.dst a F2) t=some b:=fun {F2 a} hp t b hb=>by
  cases hd2:o.dst with
  | none=>rw [hd2] at hb;exact hp _ (z3q hb)
  | some d =>
   rw [hd2] at hb
   have hb:ak ((d,a)::F1) t=some b:=hb
   show ak ((d,a)::F2) t=some b
   rw [ak_cons] at hb ⊢
   by_cases e:t=d
   ·rw [if_pos e] at hb ⊢;exact hb
   ·rw [if_neg e] at hb ⊢;exact hp _ (z3q hb)
 cases cc with
 | zero =>
  have hn0:n=0:=by omega
  subst hn0
  refine zfV 5 za hg hd hop hc ht rfl rfl ha hX (by decide) (by decide) o3 ?_
  refine zf (Vw.trans (Vw.sub' (hsub fun p hp=>(hF1 p hp).1)) (Vw.trans (Vw.perm (L':=(0,.loop .ready none G N2 ps asg body)::(1,.cells [.yld 0] 155)::(2,.cells [lsV 0 0] 37)::(4,.cells [stepG m] 119)::(5,.arr 1 1 f 3)::X) fun i=>?_) (Vw.imp (L':=(0,.loop .ready none G N2 ps asg body)::(1,.cells [.yld 0] 155)::(2,.cells [.junk] 37)::(4,.cells [stepG m] 119)::lsB (fun _=>x) X 1) ⟨rfl,BImp.refl _,rfl,BImp.refl _,rfl,BImp.cell1 (hj _),rfl,BImp.refl _,rfl,BImp.arr (fun k hk=>?_),LImp.refl _⟩))) (h 1 (fun _=>x) (by omega) (.inr rfl) fun q hq=>?_)
  ·match i with
   | 0=>rfl
   | 1=>rfl
   | 2=>rfl
   | 3=>rfl
   | 4=>rfl
   | 5=>rfl
   | n+6=>rfl
  ·have:k=0:=by omega
   rw [this,hf]
  ·rw [if_pos (by omega)]
 | succ c =>
  by_cases e:n=c+1
  ·subst e
   refine ziT za hg hd hop hc ht rfl rfl ha rfl hst (by decide) (by omega) o3 ?_
   have hm:(5,VB.arr (c+1+1) 1 (fun i=>bif Nat.blt i (c+1) then (fun q=>[PV.int .i64 (Int.ofNat (g q))]) i else f (i - (c+1))) 3)::z1m 5 (rm (lsM m (.loop .ready none G N2 ps asg body) (c+1) (c+1) g X) 5) =
     (5,VB.arr (c+1+1) 1 (fun i=>bif Nat.blt i (c+1) then (fun q=>[PV.int .i64 (Int.ofNat (g q))]) i else f (i - (c+1))) 3)::(0,.loop .ready none (z2v 5 G) N2 ps asg body)::(1,.cells [.yld 0] 155)::(2,.cells [.junk] 37)::(4,.cells [stepG m] 119)::z1m 5 (rm X 5):=rfl
   rw [hm,hG,hX2]
   refine zf (Vw.trans (Vw.sub' (hsub fun p hp=>(zcm (hF1 p hp).1).trans (congrArg some (hF1 p hp).2))) (Vw.trans (Vw.perm (L':=(0,.loop .ready none G N2 ps asg body)::(1,.cells [.yld 0] 155)::(2,.cells [.junk] 37)::(4,.cells [stepG m] 119)::(5,.arr (c+1+1) 1 (fun i=>bif Nat.blt i (c+1) then (fun q=>[PV.int .i64 (Int.ofNat (g q))]) i else f (i - (c+1))) 3)::X) fun i=>?_) (Vw.imp (L':=(0,.loop .ready none G N2 ps asg body)::(1,.cells [.yld 0] 155)::(2,.cells [.junk] 37)::(4,.cells [stepG m] 119)::lsB (fun q=>if q=c+1 then x else g q) X (c+2)) ⟨rfl,BImp.refl _,rfl,BImp.refl _,rfl,BImp.refl _,rfl,BImp.refl _,rfl,BImp.arr (fun k hk=>?_),LImp.refl _⟩))) (h (c+2) (fun q=>if q=c+1 then x else g q) (by omega) (.inr rfl) fun q hq=>rfl)
   ·match i with
    | 0=>rfl
    | 1=>rfl
    | 2=>rfl
    | 3=>rfl
    | 4=>rfl
    | 5=>rfl
    | n+6=>rfl
   ·dsimp only
    by_cases e2:k=c+1
    ·rw [if_pos e2,show Nat.blt k (c+1)=false from ziA (by omega),e2,Nat.sub_self,hf];rfl
    ·rw [if_neg e2,show Nat.blt k (c+1)=true from zfO (by omega)];rfl
  ·refine zkz za hg hd hop hc ht rfl rfl ha rfl (by decide) (by omega) o3 (by omega) (by omega) ?_
   refine zf (Vw.trans (Vw.sub' (hsub fun p hp=>(hF1 p hp).1)) (Vw.imp (L':=(0,.loop .ready none G N2 ps asg body)::(1,.cells [.yld 0] 155)::(2,.cells [.junk] 37)::(4,.cells [stepG m] 119)::lsB (fun q=>if q=n then x else g q) X (c+1)) ⟨rfl,BImp.refl _,rfl,BImp.refl _,rfl,BImp.cell1 (hj _),rfl,BImp.refl _,rfl,BImp.arr (fun k hk=>?_),LImp.refl _⟩)) (h (c+1) (fun q=>if q=n then x else g q) (by omega) (.inl rfl) fun q hq=>rfl)
   dsimp only
   by_cases e2:k=n
   ·rw [if_pos e2,e2,Nat.zero_add,show Nat.ble n n=true from z2k (Nat.le_refl _),show Nat.blt n (n+1)=true from zfO (Nat.lt_succ_self _),Nat.sub_self,hf];rfl
   ·rw [if_neg e2]
    have:(Nat.ble (0+n) k&&Nat.blt k (0+n+1))=false:=by
     cases hb:(Nat.ble (0+n) k&&Nat.blt k (0+n+1)) with
     | false=>rfl
     | true =>
      simp only [Bool.and_eq_true] at hb
      have h1:=zA hb.1
      have h2:=z0n hb.2
      omega
    rw [this];rfl
def zqH (r:Rm) (m:Nat) (N:Nat) (s:List Nat) (G:VK) (ps:List Tmp) (asg body:Code) (P:List Nat→Bool) (I:VS→Prop) (J:List Nat→LExit→VS→Prop) (row:List Nat):zI:=fun e F2 L2 =>
 (e = .normal∧P row=false∧∃ F0 g X,Vw (sE r) (s45 s) F2 L2 F0 (lsM m (.loop .busy none G N ps asg body) m m g X)∧(∀ k,k<m→g k=zV row k)∧I X) ∨
 (zi e=false∧P row=true∧∃ F0 g X G3,Vw (sE r) (s45 s) F2 L2 F0 (lsM m (.loop .busy none G3 N ps asg body) m m g X)∧J row e X)
def zqg (r:Rm) (m:Nat) (N:Nat) (s:List Nat) (G:VK) (ps:List Tmp) (asg body:Code) (P:List Nat→Bool) (I:VS→Prop) (J:List Nat→LExit→VS→Prop) (row:List Nat):zI:=fun e F1 L1 =>
 e = .normal∧∃ G2,bk L1 0=some (.loop .ready none G2 N ps asg body)∧VSt.H (sE r) N (s45 s) none (zqH r m N s G ps asg body P I J row) (.code body [] F1 (up L1 0 (.loop .busy none G2 N ps asg body)))
def zqF (m:Nat) (N:Nat) (G:VK) (ps:List Tmp) (asg body:Code) (P:List Nat→Bool) (I:VS→Prop) (J:List Nat→LExit→VS→Prop) (f k:Nat) (pre:List Nat) (a:AV) (L':VS):Prop :=
 (a=bv true∧fnd P f k pre=none∧∃ c g X,L'=lsM m (.loop .ready none G N ps asg body) pre.length c g X∧pre.length≤c∧c≤m∧(k<12→f≠0→0<c)∧(∀ q,q<pre.length→g q=zV pre q)∧I X) ∨
 (a=bv false∧∃ row,fnd P f k pre=some row∧∃ c g X e G3,zi e=false∧pre.length≤c∧L'=lsM m (.loop .done (codeOf e) G3 N ps asg body) pre.length c g X∧J row e X)
theorem zbz {l:List Nat} {x q:Nat} (hq:q≤l.length):zV (l++[x]) q=if q=l.length then x else zV l q:=by
 unfold zV
 rw [List.getD_eq_getElem?_getD,List.getD_eq_getElem?_getD]
 by_cases e:q=l.length
 ·rw [if_pos e,e,List.getElem?_append_right (Nat.le_refl _),Nat.sub_self];rfl
 ·rw [if_neg e,List.getElem?_append_left (by omega)]
theorem zoa {F:VK}:∀ p∈([]:VK),ak F p.1=some p.2∧purgeA 5 p.2=p.2:=fun _ h=>by cases h
theorem zmB {F F1:VK} {t:Nat} {a:AV} (h1:ak F t=some a) (h2:purgeA 5 a=a) (h:∀ p∈F1,ak F p.1=some p.2∧purgeA 5 p.2=p.2):∀ p∈(t,a)::F1,ak F p.1=some p.2∧purgeA 5 p.2=p.2:=fun p hp=>by
 rcases List.mem_cons.1 hp with rfl | hp
 ·exact ⟨h1,h2⟩
 ·exact h p hp
theorem zoz (s:List Nat):((s4 s).all (inB (s45 s)))=true:=by
 rw [List.all_eq_true]
 intro x hx
 unfold inB
 rw [List.any_eq_true]
 exact ⟨x,by simp only [List.mem_cons] at hx ⊢;rcases hx with h | h | h | h | h <;> simp [h],Nat.beq_refl x⟩
theorem zqd (s:List Nat):((s4 s).all (inB (s4 s)))=true:=by
 rw [List.all_eq_true]
 intro x hx
 unfold inB
 rw [List.any_eq_true]
 exact ⟨x,hx,Nat.beq_refl x⟩
set_option maxHeartbeats 8000000 in
theorem zo3 {m:Nat} (hm:m≤12) {N:Nat} {G G1:VK} {ps:List Tmp} {asg body:Code} (s:List Nat) (P:List Nat→Bool) (I:VS→Prop) (J:List Nat→LExit→VS→Prop) (hG:z2v 5 G=G) (hX:∀ X,I X→bk X 5=none∧z1m 5 (rm X 5)=X) (hs:(s.all fun k=>!Nat.beq k 5)=true)
  (hk:z5R N ps [lsV m m] G=some G1)
  (hround:∀ row g X,row.length=m→(∀ i∈row,i<12)→(∀ k,k<m→g k=zV row k)→I X→VSt.H (sE r) N (s45 s) none (zqg r m N s G ps asg body P I J row) (.code asg [] G1 (lsM m (.loop .ready none G N ps asg body) m m g X))) :
  ∀ f pre k c g X,f+pre.length=m→pre.length≤c→c≤m→(∀ i∈pre,i<12)→k≤12→(∀ q,q<pre.length→g q=zV pre q)→I X →
   VC (sE r) (s4 s) 135 [nv k,.ref 2 0,.p (.fp [.int .i64 (Int.ofNat m)] 0),.ref 1 0,.ref 4 0] (lsM m (.loop .ready none G N ps asg body) pre.length c g X) (zqF m N G ps asg body P I J f k pre):=by
 have hs4:((s4 s).all fun k=>!Nat.beq k 5)=true:=by
  rw [List.all_cons,List.all_cons,List.all_cons,List.all_cons,hs];rfl
 intro f
 induction f with
 | zero =>
  intro pre k c g X hn hc1 hc2 hlt hk12 hg hI
  have hn:pre.length=m:=by omega
  have hc:c=m:=by omega
  subst hc
  have hrd:=hround pre g X hn hlt (fun q hq=>hg q (by omega)) hI
  rw [hn]
  refine z3Q (fn:=Tryz.f135) za (zC rfl) (by kernel_rfl) rfl rfl ?_
  cases c with
  | zero =>
   unfold lsM at hrd ⊢
   dsimp only [lsV,lsB] at hrd ⊢
   refine zb za false [] 200 rfl (by repeat (first | exact AllP.n | refine AllP.c (by first | assumption | rfl | omega | exact Nat.le_refl _ | (show 0<_;omega) | (show 1<_;omega) | (show 2<_;omega) | (show 3<_;omega) | (intro _ _;rfl) | (intro q hq;match q,hq with | 0,_=>rfl) | (unfold inR;(try simp only [Int.ofNat_eq_natCast]);omega)) ?_)) ?_
   refine VSt.cond rfl (fun _=>?_) (fun q=>?_)
   rotate_left
   ·have q:(Int.ofNat 0==Int.ofNat 0)=false:=q
    rw [beq_self_eq_true] at q;cases q
   refine zb za false [] 200 rfl (by repeat (first | exact AllP.n | refine AllP.c (by first | assumption | rfl | omega | exact Nat.le_refl _ | (show 0<_;omega) | (show 1<_;omega) | (show 2<_;omega) | (show 3<_;omega) | (intro _ _;rfl) | (intro q hq;match q,hq with | 0,_=>rfl) | (unfold inR;(try simp only [Int.ofNat_eq_natCast]);omega)) ?_)) ?_
   refine VSt.yieldN (s45 s) rfl rfl rfl rfl rfl rfl rfl hk rfl rfl (zoz s) (VW.mono hrd ?_)
   refine fun e F1 L1' h=>⟨h.1,h.2.elim fun G2 h2=>⟨G2,h2.1,VW.mono h2.2 ?_⟩⟩
   refine fun e F2 L2 h=>?_
   rcases h with ⟨he,hP,F0,g',X',hv,hg',hI'⟩ | ⟨he,hP,F0,g',X',G3,hv,hJ⟩
   ·subst he
    refine ⟨F0,_,none,G,hv,rfl,?_⟩
    refine zb za false [] 200 rfl (by repeat (first | exact AllP.n | refine AllP.c (by first | assumption | rfl | omega | exact Nat.le_refl _ | (show 0<_;omega) | (show 1<_;omega) | (show 2<_;omega) | (show 3<_;omega) | (intro _ _;rfl) | (intro q hq;match q,hq with | 0,_=>rfl) | (unfold inR;(try simp only [Int.ofNat_eq_natCast]);omega)) ?_)) ?_
    refine ⟨rfl,_,rfl,.inl ⟨rfl,?_,0,g',X',?_,by omega,Nat.le_refl _,fun _ h=>absurd rfl h,fun q hq=>hg' q (by omega),hI'⟩⟩
    ·show (bif P pre then some pre else none)=none
     rw [hP];rfl
    ·rw [hn];rfl
   ·refine ⟨F0,_,none,G3,hv,rfl,?_⟩
    rw [he]
    refine zb za false [] 200 rfl (by repeat (first | exact AllP.n | refine AllP.c (by first | assumption | rfl | omega | exact Nat.le_refl _ | (show 0<_;omega) | (show 1<_;omega) | (show 2<_;omega) | (show 3<_;omega) | (intro _ _;rfl) | (intro q hq;match q,hq with | 0,_=>rfl) | (unfold inR;(try simp only [Int.ofNat_eq_natCast]);omega)) ?_)) ?_
    refine ⟨rfl,_,rfl,.inr ⟨rfl,pre,?_,0,g',X',e,G3,he,by omega,?_,hJ⟩⟩
    ·show (bif P pre then some pre else none)=some pre
     rw [hP];rfl
    ·rw [hn];rfl
  | succ c =>
   unfold lsM at hrd ⊢
   dsimp only [lsV,lsB] at hrd ⊢
   refine zb za false [] 200 rfl (by repeat (first | exact AllP.n | refine AllP.c (by first | assumption | rfl | omega | exact Nat.le_refl _ | (show 0<_;omega) | (show 1<_;omega) | (show 2<_;omega) | (show 3<_;omega) | (intro _ _;rfl) | (intro q hq;match q,hq with | 0,_=>rfl) | (unfold inR;(try simp only [Int.ofNat_eq_natCast]);omega)) ?_)) ?_
   refine VSt.cond rfl (fun _=>?_) (fun q=>?_)
   rotate_left
   ·have q:(Int.ofNat (c+1)==Int.ofNat (c+1))=false:=q
    rw [beq_self_eq_true] at q;cases q
   refine zb za false [] 200 rfl (by repeat (first | exact AllP.n | refine AllP.c (by first | assumption | rfl | omega | exact Nat.le_refl _ | (show 0<_;omega) | (show 1<_;omega) | (show 2<_;omega) | (show 3<_;omega) | (intro _ _;rfl) | (intro q hq;match q,hq with | 0,_=>rfl) | (unfold inR;(try simp only [Int.ofNat_eq_natCast]);omega)) ?_)) ?_
   refine VSt.yieldN (s45 s) rfl rfl rfl rfl rfl rfl rfl hk rfl rfl (zoz s) (VW.mono hrd ?_)
   refine fun e F1 L1' h=>⟨h.1,h.2.elim fun G2 h2=>⟨G2,h2.1,VW.mono h2.2 ?_⟩⟩
   refine fun e F2 L2 h=>?_
   rcases h with ⟨he,hP,F0,g',X',hv,hg',hI'⟩ | ⟨he,hP,F0,g',X',G3,hv,hJ⟩
   ·subst he
    refine ⟨F0,_,none,G,hv,rfl,?_⟩
    refine zb za false [] 200 rfl (by repeat (first | exact AllP.n | refine AllP.c (by first | assumption | rfl | omega | exact Nat.le_refl _ | (show 0<_;omega) | (show 1<_;omega) | (show 2<_;omega) | (show 3<_;omega) | (intro _ _;rfl) | (intro q hq;match q,hq with | 0,_=>rfl) | (unfold inR;(try simp only [Int.ofNat_eq_natCast]);omega)) ?_)) ?_
    refine ⟨rfl,_,rfl,.inl ⟨rfl,?_,(c+1),g',X',?_,by omega,Nat.le_refl _,fun _ h=>absurd rfl h,fun q hq=>hg' q (by omega),hI'⟩⟩
    ·show (bif P pre then some pre else none)=none
     rw [hP];rfl
    ·rw [hn];rfl
   ·refine ⟨F0,_,none,G3,hv,rfl,?_⟩
    rw [he]
    refine zb za false [] 200 rfl (by repeat (first | exact AllP.n | refine AllP.c (by first | assumption | rfl | omega | exact Nat.le_refl _ | (show 0<_;omega) | (show 1<_;omega) | (show 2<_;omega) | (show 3<_;omega) | (intro _ _;rfl) | (intro q hq;match q,hq with | 0,_=>rfl) | (unfold inR;(try simp only [Int.ofNat_eq_natCast]);omega)) ?_)) ?_
    refine ⟨rfl,_,rfl,.inr ⟨rfl,pre,?_,(c+1),g',X',e,G3,he,by omega,?_,hJ⟩⟩
    ·show (bif P pre then some pre else none)=some pre
     rw [hP];rfl
    ·rw [hn];rfl
 | succ f ih =>
  intro pre k c g X hn hc1 hc2 hlt hk12 hg hI
  have hnm:pre.length<m:=by omega
  refine z3Q (fn:=Tryz.f135) za (zC rfl) (by kernel_rfl) rfl rfl ?_
  unfold lsM
  refine zb za false [9] 200 rfl (by repeat (first | exact AllP.n | refine AllP.c (by first | assumption | rfl | omega | exact Nat.le_refl _ | (show 0<_;omega) | (show 1<_;omega) | (show 2<_;omega) | (show 3<_;omega) | (intro _ _;rfl) | (intro q hq;match q,hq with | 0,_=>rfl) | (unfold inR;(try simp only [Int.ofNat_eq_natCast]);omega)) ?_)) ?_
  refine z5k rfl rfl (z8O (a:=lsV pre.length c) za rfl) ?_
  refine zf (F0:=[(9,lsV pre.length c),(6,.lit false),(0,nv k),(1,.ref 2 0),(2,.p (.fp [.int .i64 (Int.ofNat m)] 0)),(3,.ref 1 0),(4,.ref 4 0)]) (by (refine Vw.sub' (z5t (by repeat (first | exact z0d | refine z0x rfl ?_))))) ?_
  refine z5k rfl rfl (zqt (n:=pre.length) (k:=c) za rfl rfl rfl ?_ (fun h=>by omega)) ?_
  ·cases c <;> rfl
  refine zf (F0:=[(10,nv pre.length),(6,.lit false),(0,nv k),(1,.ref 2 0),(2,.p (.fp [.int .i64 (Int.ofNat m)] 0)),(3,.ref 1 0),(4,.ref 4 0)]) (by (refine Vw.sub' (z5t (by repeat (first | exact z0d | refine z0x rfl ?_))))) ?_
  refine zb za false [] 200 rfl (by repeat (first | exact AllP.n | refine AllP.c (by first | assumption | rfl | omega | exact Nat.le_refl _ | (show 0<_;omega) | (show 1<_;omega) | (show 2<_;omega) | (show 3<_;omega) | (intro _ _;rfl) | (intro q hq;match q,hq with | 0,_=>rfl) | (unfold inR;(try simp only [Int.ofNat_eq_natCast]);omega)) ?_)) ?_
  refine VSt.cond rfl (fun q=>?_) (fun _=>?_)
  ·have q:(Int.ofNat pre.length==Int.ofNat m)=true:=q
   have:=eq_of_beq q
   simp only [Int.ofNat_eq_natCast] at this
   omega
  refine zb za false [] 200 rfl (by repeat (first | exact AllP.n | refine AllP.c (by first | assumption | rfl | omega | exact Nat.le_refl _ | (show 0<_;omega) | (show 1<_;omega) | (show 2<_;omega) | (show 3<_;omega) | (intro _ _;rfl) | (intro q hq;match q,hq with | 0,_=>rfl) | (unfold inR;(try simp only [Int.ofNat_eq_natCast]);omega)) ?_)) ?_
  refine VSt.loop (α :=Nat) (fun i F L=>F=[(7,nv i),(1,.ref 2 0),(2,.p (.fp [.int .i64 (Int.ofNat m)] 0)),(3,.ref 1 0),(4,.ref 4 0)]∧k≤i∧i≤12∧(∀ q,k≤q→q<i→fnd P f (q+1) (pre++[q])=none)∧∃ c g X,L=lsM m (.loop .ready none G N ps asg body) pre.length c g X∧pre.length≤c∧c≤m∧(k<i→0<c)∧(∀ q,q<pre.length→g q=zV pre q)∧I X) (fun i=>12 - i) k (by (refine Vw.sub' (z5t (by repeat (first | exact z0d | refine z0x rfl ?_)))))
   ⟨rfl,Nat.le_refl _,hk12,fun q h1 h2=>by omega,c,g,X,rfl,hc1,hc2,fun h=>by omega,hg,hI⟩ ?_
  rintro i F L ⟨rfl,hki,hi12,hnone,c,g,X,rfl,hc1,hc2,hc3,hg,hI⟩
  unfold lsM
  refine zb za false [] 200 rfl (by repeat (first | exact AllP.n | refine AllP.c (by first | assumption | rfl | omega | exact Nat.le_refl _ | (show 0<_;omega) | (show 1<_;omega) | (show 2<_;omega) | (show 3<_;omega) | (intro _ _;rfl) | (intro q hq;match q,hq with | 0,_=>rfl) | (unfold inR;(try simp only [Int.ofNat_eq_natCast]);omega)) ?_)) ?_
  refine VSt.cond rfl (fun h1=>?_) (fun h1=>?_)
  rotate_left
  ·have h1:i=12:=by have:=nge (n:=12) h1;omega
   subst h1
   refine zb za false [] 200 rfl (by repeat (first | exact AllP.n | refine AllP.c (by first | assumption | rfl | omega | exact Nat.le_refl _ | (show 0<_;omega) | (show 1<_;omega) | (show 2<_;omega) | (show 3<_;omega) | (intro _ _;rfl) | (intro q hq;match q,hq with | 0,_=>rfl) | (unfold inR;(try simp only [Int.ofNat_eq_natCast]);omega)) ?_)) ?_
   refine ⟨rfl,_,rfl,.inl ⟨rfl,zb9 _ fun q hq=>hnone (k+q) (by omega) (by omega),c,g,X,rfl,hc1,hc2,fun h _=>hc3 h,hg,hI⟩⟩
  have h1:i<12:=nlt (n:=12) h1
  refine zb za false [21] 200 rfl (by repeat (first | exact AllP.n | refine AllP.c (by first | assumption | rfl | omega | exact Nat.le_refl _ | (show 0<_;omega) | (show 1<_;omega) | (show 2<_;omega) | (show 3<_;omega) | (intro _ _;rfl) | (intro q hq;match q,hq with | 0,_=>rfl) | (unfold inR;(try simp only [Int.ofNat_eq_natCast]);omega)) ?_)) ?_
  have hsn:∀ (c2:Nat) (g2:Nat→Nat),pre.length+1≤c2→(c2=c∨c2=pre.length+1)→(∀ q,q≤pre.length→g2 q=if q=pre.length then i else g q)→pre.length+1≤c2∧c2≤m∧∀ q,q<(pre++[i]).length→g2 q=zV (pre++[i]) q:=fun c2 g2 a1 a2 a3=>by
   refine ⟨a1,by omega,fun q hq=>?_⟩
   rw [List.length_append,List.length_singleton] at hq
   rw [a3 q (by omega),zbz (by omega)]
   by_cases e:q=pre.length
   ·rw [if_pos e,if_pos e]
   ·rw [if_neg e,if_neg e,hg q (by omega)]
  refine z5k rfl rfl (z8O (a:=lsV pre.length c) za rfl) ?_
  refine z5k rfl rfl (z8O (a:=nv i) za rfl) ?_
  refine zn7 za rfl rfl rfl (a:=.p (.lst 3 false 1 fun k=>(([.int .i64 (Int.ofNat i)]:List PV).drop (k*1)).take 1)) rfl ?_
  refine ziU (nb:=false) (ty:=3) (n:=pre.length) (cc:=c) (x:=i) (g:=g) (f:=fun k=>(([.int .i64 (Int.ofNat i)]:List PV).drop (k*1)).take 1) (F1:=[(7,nv i),(1,.ref 2 0),(2,.p (.fp [.int .i64 (Int.ofNat m)] 0)),(3,.ref 1 0),(4,.ref 4 0)]) rfl rfl rfl rfl rfl ?_ rfl hc1 (by omega) (hX X hI).1 (hX X hI).2 hG hs4 (by repeat (first | exact zoa | refine zmB rfl rfl ?_)) (fun c2 g2 a1 a2 a3=>?_)
  ·cases c <;> rfl
  have hcg:=hsn c2 g2 a1 a2 a3
  have hlen:(pre++[i]).length=pre.length+1:=by rw [List.length_append];rfl
  obtain ⟨c3,rfl⟩:∃ c3,c2=c3+1:=⟨c2 - 1,by omega⟩
  have hlt':∀ q∈pre++[i],q<12:=fun q hq=>by
   rcases List.mem_append.1 hq with hq | hq
   ·exact hlt q hq
   ·rw [List.mem_singleton.1 hq];exact h1
  have hC:=ih (pre++[i]) (i+1) (c3+1) g2 X (by omega) (by omega) hcg.2.1 hlt' (by omega) hcg.2.2 hI
  rw [hlen] at hC
  dsimp only [lsV,lsB]
  refine zb za false [] 200 rfl (by repeat (first | exact AllP.n | refine AllP.c (by first | assumption | rfl | omega | exact Nat.le_refl _ | (show 0<_;omega) | (show 1<_;omega) | (show 2<_;omega) | (show 3<_;omega) | (intro _ _;rfl) | (intro q hq;match q,hq with | 0,_=>rfl) | (unfold inR;(try simp only [Int.ofNat_eq_natCast]);omega)) ?_)) ?_
  refine zf (F0:=[(25,stepG m),(27,nv (i+1)),(7,nv i),(1,.ref 2 0),(2,.p (.fp [.int .i64 (Int.ofNat m)] 0)),(3,.ref 1 0),(4,.ref 4 0)]) (by (refine Vw.sub' (z5t (by repeat (first | exact z0d | refine z0x rfl ?_))))) ?_
  refine VSt.ci (s4 s) rfl rfl rfl rfl rfl rfl rfl (zqd s) hC (fun a L' ha=>?_)
  rcases ha with ⟨rfl,hno,c4,g4,X4,rfl,hd1,hd2,_,hd4,hI4⟩ | ⟨rfl,row,hyes,c4,g4,X4,e,G3,he,hd1,rfl,hJ⟩
  ·rw [hlen] at hd1 hd4
   rw [hlen]
   obtain ⟨c5,rfl⟩:∃ c5,c4=c5+1:=⟨c4 - 1,by omega⟩
   unfold lsM
   dsimp only [lsV,lsB]
   refine zb za false [32] 200 rfl (by repeat (first | exact AllP.n | refine AllP.c (by first | assumption | rfl | omega | exact Nat.le_refl _ | (show 0<_;omega) | (show 1<_;omega) | (show 2<_;omega) | (show 3<_;omega) | (intro _ _;rfl) | (intro q hq;match q,hq with | 0,_=>rfl) | (unfold inR;(try simp only [Int.ofNat_eq_natCast]);omega)) ?_)) ?_
   first | refine z06 31 (nv (pre.length+1)) rfl (AImp.refl _) ?_ | refine z0v 31 (nv (pre.length+1)) rfl (AImp.refl _) ?_ | refine VSt.putC 31 (nv (pre.length+1)) rfl (AImp.refl _) ?_
   refine zb za false [33] 200 rfl (by repeat (first | exact AllP.n | refine AllP.c (by first | assumption | rfl | omega | exact Nat.le_refl _ | (show 0<_;omega) | (show 1<_;omega) | (show 2<_;omega) | (show 3<_;omega) | (intro _ _;rfl) | (intro q hq;match q,hq with | 0,_=>rfl) | (unfold inR;(try simp only [Int.ofNat_eq_natCast]);omega)) ?_)) ?_
   first | refine z06 32 (nv pre.length) rfl (z2d z2i) ?_ | refine z0v 32 (nv pre.length) rfl (z2d z2i) ?_ | refine VSt.putC 32 (nv pre.length) rfl (z2d z2i) ?_
   refine zb za false [] 200 rfl (by repeat (first | exact AllP.n | refine AllP.c (by first | assumption | rfl | omega | exact Nat.le_refl _ | (show 0<_;omega) | (show 1<_;omega) | (show 2<_;omega) | (show 3<_;omega) | (intro _ _;rfl) | (intro q hq;match q,hq with | 0,_=>rfl) | (unfold inR;(try simp only [Int.ofNat_eq_natCast]);omega)) ?_)) ?_
   refine VSt.cond rfl (fun q=>absurd q (by decide)) (fun _=>?_)
   refine zb za false [] 200 rfl (by repeat (first | exact AllP.n | refine AllP.c (by first | assumption | rfl | omega | exact Nat.le_refl _ | (show 0<_;omega) | (show 1<_;omega) | (show 2<_;omega) | (show 3<_;omega) | (intro _ _;rfl) | (intro q hq;match q,hq with | 0,_=>rfl) | (unfold inR;(try simp only [Int.ofNat_eq_natCast]);omega)) ?_)) ?_
   refine ⟨i+1,_,_,(by (refine Vw.sub' (z5t (by repeat (first | exact z0d | refine z0x rfl ?_))))),⟨rfl,by omega,h1,fun q h2 h3=>?_,c5+1,g4,X4,rfl,by omega,hd2,fun _=>Nat.succ_pos _,fun q hq=>?_,hI4⟩,by omega⟩
   ·by_cases e:q=i
    ·rw [e];exact hno
    ·exact hnone q h2 (by omega)
   ·rw [hd4 q (by omega),zbz (by omega),if_neg (by omega)]
  ·rw [hlen] at hd1
   rw [hlen]
   have hf:fnd P (f+1) k pre=some row:=by
    refine zb8 (12 - k) (i - k) (by omega) (fun q hq=>hnone (k+q) (by omega) (by omega)) ?_
    show fnd P f (k+(i - k)+1) (pre++[k+(i - k)])=_
    rw [show k+(i - k)=i by omega];exact hyes
   obtain ⟨c5,rfl⟩:∃ c5,c4=c5+1:=⟨c4 - 1,by omega⟩
   unfold lsM
   dsimp only [lsV,lsB]
   refine zb za false [32] 200 rfl (by repeat (first | exact AllP.n | refine AllP.c (by first | assumption | rfl | omega | exact Nat.le_refl _ | (show 0<_;omega) | (show 1<_;omega) | (show 2<_;omega) | (show 3<_;omega) | (intro _ _;rfl) | (intro q hq;match q,hq with | 0,_=>rfl) | (unfold inR;(try simp only [Int.ofNat_eq_natCast]);omega)) ?_)) ?_
   first | refine z06 31 (nv (pre.length+1)) rfl (AImp.refl _) ?_ | refine z0v 31 (nv (pre.length+1)) rfl (AImp.refl _) ?_ | refine VSt.putC 31 (nv (pre.length+1)) rfl (AImp.refl _) ?_
   refine zb za false [33] 200 rfl (by repeat (first | exact AllP.n | refine AllP.c (by first | assumption | rfl | omega | exact Nat.le_refl _ | (show 0<_;omega) | (show 1<_;omega) | (show 2<_;omega) | (show 3<_;omega) | (intro _ _;rfl) | (intro q hq;match q,hq with | 0,_=>rfl) | (unfold inR;(try simp only [Int.ofNat_eq_natCast]);omega)) ?_)) ?_
   first | refine z06 32 (nv pre.length) rfl (z2d z2i) ?_ | refine z0v 32 (nv pre.length) rfl (z2d z2i) ?_ | refine VSt.putC 32 (nv pre.length) rfl (z2d z2i) ?_
   refine zb za false [] 200 rfl (by repeat (first | exact AllP.n | refine AllP.c (by first | assumption | rfl | omega | exact Nat.le_refl _ | (show 0<_;omega) | (show 1<_;omega) | (show 2<_;omega) | (show 3<_;omega) | (intro _ _;rfl) | (intro q hq;match q,hq with | 0,_=>rfl) | (unfold inR;(try simp only [Int.ofNat_eq_natCast]);omega)) ?_)) ?_
   refine VSt.cond rfl (fun _=>?_) (fun q=>absurd q (by decide))
   refine zb za false [] 200 rfl (by repeat (first | exact AllP.n | refine AllP.c (by first | assumption | rfl | omega | exact Nat.le_refl _ | (show 0<_;omega) | (show 1<_;omega) | (show 2<_;omega) | (show 3<_;omega) | (intro _ _;rfl) | (intro q hq;match q,hq with | 0,_=>rfl) | (unfold inR;(try simp only [Int.ofNat_eq_natCast]);omega)) ?_)) ?_
   exact ⟨rfl,_,rfl,.inr ⟨rfl,row,hf,c5+1,g4,X4,e,G3,he,by omega,rfl,hJ⟩⟩
end Go.Proofs.YtdpipdniklognaaGreat
/- Walks: the iterator of lists of holes; Conflict. -/
set_option maxRecDepth 100000
namespace Go.Proofs.YtdpipdniklognaaGreat
variable {r:Rm}
def zqG (m:Nat) (N:Nat) (G:VK) (ps:List Tmp) (asg body:Code) (P:List Nat→Bool) (I:VS→Prop) (J:List Nat→LExit→VS→Prop) (L':VS):Prop :=
 (fnd P m 0 []=none∧∃ c g X,L'=lsM m (.loop .ready none G N ps asg body) 0 c g X∧I X) ∨
 (∃ row,fnd P m 0 []=some row∧∃ c g X e G3,zi e=false∧L'=lsM m (.loop .done (codeOf e) G3 N ps asg body) 0 c g X∧J row e X)
set_option maxHeartbeats 4000000 in
theorem zhw {m:Nat} (hm:m≤12) {N:Nat} {G G1:VK} {ps:List Tmp} {asg body:Code} {X:VS} (s:List Nat) (P:List Nat→Bool) (I:VS→Prop) (J:List Nat→LExit→VS→Prop) (hG:z2v 5 G=G) (hX:∀ X,I X→bk X 5=none∧z1m 5 (rm X 5)=X) (hs:(s.all fun k=>!Nat.beq k 5)=true) (hX2:∀ i,i<10→bk X i=none) (hI:I X)
  (hk:z5R N ps [lsV m m] G=some G1)
  (hround:∀ row g X,row.length=m→(∀ i∈row,i<12)→(∀ k,k<m→g k=zV row k)→I X→VSt.H (sE r) N (s45 s) none (zqg r m N s G ps asg body P I J row) (.code asg [] G1 (lsM m (.loop .ready none G N ps asg body) m m g X))) :
  VC (sE r) (0::s) 134 [.yld 0,.p (.fp [.int .i64 (Int.ofNat m)] 0)] ((0,.loop .ready none G N ps asg body)::X) (fun _ L'=>zqG m N G ps asg body P I J L'):=by
 refine z3Q (fn:=Tryz.f134) za (zC rfl) (by kernel_rfl) rfl rfl ?_
 refine zb za false [2] 200 rfl trivial ?_
 refine zaN 1 (hX2 1 (by decide)) rfl rfl rfl rfl rfl ?_
 refine zb za false [3] 200 rfl AllP.n ?_
 refine z3r 2 za (hX2 2 (by decide)) rfl rfl rfl rfl ?_
 refine zb za false [4] 200 rfl AllP.n ?_
 refine z3r 4 za (hX2 4 (by decide)) rfl rfl rfl rfl ?_
 refine zb za false [] 200 rfl AllP.n ?_
 refine zf (Vw.trans (Vw.perm (L':=(0,.loop .ready none G N ps asg body)::(1,.cells [.yld 0] 155)::(2,.cells [.p (.lst 0 true 0 fun _=>[])] 37)::(4,.cells [stepG m] 119)::X) fun i=>?_) (Vw.imp (L':=lsM m (.loop .ready none G N ps asg body) 0 0 (fun _=>0) X) ⟨rfl,BImp.refl _,rfl,BImp.refl _,rfl,BImp.cell1 AImp.nil,rfl,BImp.refl _,LImp.refl _⟩)) ?_
 ·match i with
  | 0=>rfl
  | 1=>rfl
  | 2=>rfl
  | 3=>rfl
  | 4=>rfl
  | n+5=>rfl
 refine VSt.ci (s4 s) rfl rfl rfl rfl rfl rfl rfl (zqd s) (zo3 hm s P I J hG hX hs hk hround m [] 0 0 (fun _=>0) X rfl (Nat.le_refl _) (Nat.zero_le _) (fun i hi=>by cases hi) (by decide) (fun q hq=>absurd hq (Nat.not_lt_zero q)) hI) (fun a L' ha=>?_)
 rcases ha with ⟨rfl,hno,c,g1,X1,rfl,_,_,_,_,hI1⟩ | ⟨rfl,row,hyes,c,g1,X1,e,G3,he,_,rfl,hJ⟩
 ·unfold lsM
  refine zb za false [] 200 rfl AllP.n ?_
  exact ⟨rfl,_,rfl,.inl ⟨hno,c,g1,X1,rfl,hI1⟩⟩
 ·unfold lsM
  refine zb za false [] 200 rfl AllP.n ?_
  exact ⟨rfl,_,rfl,.inr ⟨row,hyes,c,g1,X1,e,G3,he,rfl,hJ⟩⟩
section
variable {E:Env} {N:Nat} {st:List Nat} {rd:Option Nat} {Q:zI} {F:VK} {L:VS}
theorem ziS {ops:Array Oper} {o:Oper} {rest:List Oper} {K:List KI} {F0:VK} {L0:VS} {c:Call} {f:Operand} {g:FuncId} {first cap args:List AV} {n sz:Nat} {fz:Nat→List PV} {t:TypeId} (hw:Vw E [] F L F0 L0) (hg:vgl ops F o.guard=some true) (hd:zB o.dst N=true)
  (hop:o.op = .call c) (hc:c.callee = .value f) (hf:av F0 f=some (.fn g first cap)) (ha:avs F0 c.args.toList=some args) (hon:z03 (olds []) (first++(args++cap))=true) (hC:VC E [] g (first++(args++cap)) [] (fun a L'=>a = .acc true 0 sz n∧L'=[(0,.acc n sz fz t)])) (hpl:∀ k,k<n→(fz k).all PV.plain=true)
  (h:VSt.H E N st rd Q (.ops ops rest K (zG o.dst (.p (.lst t (Nat.beq n 0) n fz)) F) L)):VSt.H E N st rd Q (.ops ops (o::rest) K F L):=by
 intro T S Z j h1 h2 h3 h4
 obtain ⟨m,T',S',Z',k1,k3,k4,k5,k6,k7,_⟩:=zem hw hC hpl (z0T hg) hd hop hc hf ha hon h1 h2 h3 h4
 obtain ⟨n2,r,q1,F2,L2,Z2,j2,q2,q3⟩:=h T' S' Z' j k3 k4 k5 k7
 refine ⟨m+n2,r,fun k hk=>?_,F2,L2,Z2,j2,⟨q2.n,q2.sr,q2.fr,k6.trans q2.ex,q2.low,q2.stay⟩,q3⟩
 show ob (zt E _ _ ops o T S) _=_
 rw [k1 k (by omega)]
 exact q1 k (by omega)
end
theorem zir {l:List Int} (hn:l.length<1000000) (h0:0<l.length):VC (sE r) [] 87 [.p (z2F false l)] [] (fun a L'=>a = .acc true 0 1 l.length∧L'=[(0,.acc l.length 1 (fL l) 3)]):=by
 refine z3Q (fn:=Tryz.f87) za (zC rfl) (by kernel_rfl) rfl rfl ?_
 refine VSt.go za false [] 200 rfl AllP.n ?_
 refine VSt.cond rfl (fun h=>absurd h (by decide)) (fun h=>?_)
 refine VSt.go za false [2] 200 rfl (AllP.c ‹_› (AllP.c (by omega) (AllP.c (fun _ _=>rfl) (AllP.c rfl (AllP.c rfl (AllP.c (by omega) (AllP.c (by omega) AllP.n))))))) ?_
 refine zf (zN (ps:=[(0,1)]) (F0:=[(7,.acc true 0 1 l.length)]) (L0:=[(0,.acc l.length 1 (fL l) 3)]) ⟨rfl,rfl,z1B rfl rfl (z6F h0 (Nat.zero_add _) (Nat.zero_add _)) zu,_,rfl,⟨rfl,z5m (Nat.zero_add _) (fun q _=>rfl),trivial⟩⟩) ?_
 refine VSt.go za false [] 200 rfl AllP.n ?_
 exact ⟨rfl,_,rfl,rfl,rfl⟩
def cfX (h:Hp) (p:Int) (a:PV):VS:=[(10,.cells [.p a] 37),(11,.cells [iv 0] 28),(12,.cells [.map 13] 108),(13,.mapA none (zcv (zZ h p)) [])]
def z3j (h:Hp) (p:Int) (l:List Nat):Bool:=zY (zZ h p) (zS l)
def cfF (P:List Nat→Bool):Nat→Option (List Nat)
 | 0=>none
 | k+1=>match cfF P k with
  | some row=>some row
  | none=>fnd P k 0 []
noncomputable def cfE (h:Hp) (p:Int):Int:=if ppE h p=0 then (match cfF (z3j h p) 13 with | some _=>0 | none=>54) else ppE h p
noncomputable def cfV (h:Hp) (p:Int):List Int:=if ppE h p=0 then (match cfF (z3j h p) 13 with | some row=>row.map Int.ofNat | none=>[]) else []
set_option maxHeartbeats 8000000 in
theorem zdK {h:Hp} {p:Int} (hz:SzH h):VP (sE r) 27 [.agg ((eHp h).map .p),iv p] (.tup [.p (eL (cfV h p)),iv (cfE h p)]):=by
 have hc:=z4x (r:=r) (p:=p) hz
 rcases z5z h p with ⟨hO,e⟩ | e
 rotate_left
 ·rw [show cfE h p=ppE h p from if_neg (zcV e),show cfV h p=[] from if_neg (zcV e)]
  refine VP.of (fn:=Tryz.f27) za (zC rfl) (by kernel_rfl) rfl rfl rfl ?_
  refine VSt.go za false [] 200 rfl AllP.n ?_
  refine zf (z00 0 (eHp h) rfl rfl) ?_
  refine VSt.go za false [] 200 rfl AllP.n ?_
  refine VSt.pc rfl rfl rfl rfl rfl rfl rfl rfl (hc) ?_
  refine VSt.go za false [] 200 rfl AllP.n ?_
  refine VSt.cond rfl (fun _=>?_) (fun q=>absurd (q.symm.trans e) (by decide))
  refine VSt.go za false [] 200 rfl AllP.n ?_
  exact ⟨rfl,_,rfl,rfl,AImp.tup ⟨AImp.nil,AImp.refl _,trivial⟩⟩
 rw [e] at hc
 refine VP.of (fn:=Tryz.f27) za (zC rfl) (by kernel_rfl) rfl rfl rfl ?_
 refine VSt.go za false [] 200 rfl AllP.n ?_
 refine zf (z00 0 (eHp h) rfl rfl) ?_
 refine VSt.go za false [] 200 rfl AllP.n ?_
 refine VSt.pc rfl rfl rfl rfl rfl rfl rfl rfl (hc) ?_
 refine VSt.go za false [] 200 rfl AllP.n ?_
 refine VSt.cond rfl (fun q=>absurd q (by decide)) (fun _=>?_)
 refine VSt.go za false [] 200 rfl AllP.n ?_
 refine VSt.cc [] rfl rfl rfl rfl rfl rfl rfl rfl rfl rfl rfl (zcf (h:=h) (p:=p) hz hO) ?_
 rintro a L' ⟨rfl,rfl⟩
 refine VSt.go za false [] 200 rfl AllP.n ?_
 refine zl (Vw.kp [4,5,7,19] [(10,1),(11,2),(12,4),(13,3)] rfl) ?_
 refine z2a (ti:=19) 13 [4,5,7] (fun _=>[]) (fun _=>[(10,.cells [.p (.lst 0 true 0 fun _=>[])] 37),(11,.cells [iv 0] 28),(12,.cells [.map 13] 108),(13,.mapA none (zcv (zZ h p)) [])]) (fun k=>cfF (z3j h p) k=none) rfl rfl z1k (LImp.refl _) rfl (fun k hk hp=>?_)
 refine VSt.go za false [] 200 rfl AllP.n ?_
 refine VSt.cond rfl (fun g2=>?_) (fun g2=>?_)
 rotate_left
 ·have g2:k=13:=by have:=nge (n:=13) g2;omega
  subst g2
  rw [show cfE h p=54 by unfold cfE;rw [if_pos e,hp],show cfV h p=[] by unfold cfV;rw [if_pos e,hp]]
  refine VSt.go za false [] 200 rfl AllP.n ?_
  exact ⟨rfl,_,rfl,rfl,AImp.tup ⟨AImp.nil,AImp.refl _,trivial⟩⟩
 have g2:k<13:=nlt (n:=13) g2
 refine VSt.go za false [] 200 rfl AllP.n ?_
 refine VSt.pc rfl rfl rfl rfl rfl rfl rfl rfl ((zjR (m:=k))) ?_
 refine VSt.go za false [] 200 rfl AllP.n ?_
 refine zl (Vw.kp [4,5,7,19,23] [(10,10),(11,11),(12,12),(13,13)] rfl) ?_
 refine z15 0 [0,10,11,12,13] rfl rfl rfl rfl rfl
  (zhw (r:=r) (m:=k) (G1:=[(24,lsV k k),(4,.ref 10 0),(5,.ref 11 0),(7,.ref 12 0),(19,nv k),(23,.fn 134 [] [.p (.fp [.int .i64 (Int.ofNat k)] 0)])]) (by omega) [10,11,12,13] (z3j h p) (fun X=>X=cfX h p (.lst 0 true 0 fun _=>[])) (fun row e X=>e = .ret∧∃ a,X=cfX h p a∧a=eL (row.map Int.ofNat)) rfl (by rintro _ rfl;exact ⟨rfl,rfl⟩) rfl (fun i hi=>by
   show bk [(10,_),(11,_),(12,_),(13,_)] i=none
   rw [zx,if_neg (by omega),zx,if_neg (by omega),zx,if_neg (by omega),zx,if_neg (by omega)];rfl) rfl (by cases k <;> rfl) ?_) (fun a L' ha=>?_)
 ·rintro row g X hlen hrow hg rfl
  have h12:zS row<9223372036854775808:=Nat.lt_of_lt_of_le (z7L row hrow) (by decide)
  have hM:∀ w∈zZ h p,w<9223372036854775808:=fun w hw=>by
   obtain ⟨x,_,rfl⟩:=List.mem_map.1 hw
   exact Nat.lt_of_lt_of_le (zce _ 12) (by decide)
  cases k with
  | zero =>
   cases List.length_eq_zero_iff.1 hlen
   refine zb za false [] 200 rfl AllP.n ?_
   refine ⟨rfl,_,rfl,?_⟩
   refine zb za false [] 200 rfl AllP.n ?_
   refine z1P rfl rfl rfl rfl rfl rfl rfl rfl ((VP.imp (zgK (b:=true) (l:=[]) (by decide) (fun k hk=>by cases hk)) ⟨AImp.lst fun k hk=>absurd hk (Nat.not_lt_zero k),trivial⟩)) ?_
   refine zb za false [] 200 rfl AllP.n ?_
   refine zf3 rfl rfl (PureR.call rfl rfl rfl (fun S Z j vs hS hv=>z7q hS hv rfl h12 hM)) ?_
   refine zb za false [] 200 rfl AllP.n ?_
   refine VSt.cond rfl (fun h1=>?_) (fun h1=>?_)
   ·have h1:z3j h p []=true:=h1
    refine zb za false [] 200 rfl AllP.n ?_
    refine VSt.pc rfl rfl rfl rfl rfl rfl rfl rfl ((VP.imp (ziq (l:=[]) (by decide)) ⟨AImp.nil,trivial⟩)) ?_
    refine zb za false [] 200 rfl AllP.n ?_
    exact .inr ⟨rfl,h1,[],g,_,_,Vw.sub' (z5t z0d),rfl,_,rfl,rfl⟩
   ·have h1:z3j h p []=false:=h1
    refine zb za false [] 200 rfl AllP.n ?_
    exact .inl ⟨rfl,h1,[],g,_,Vw.sub' (z5t z0d),hg,rfl⟩
  | succ k =>
   have himp:AImp (.p (.lst 3 false (k+1) fun q=>[.int .i64 (Int.ofNat (g q))])) (.p (zij false row)):=by
    unfold zij z2F
    rw [List.length_map,hlen]
    exact AImp.lst fun q hq=>by rw [zd9,hg q hq]
   refine zb za false [] 200 rfl AllP.n ?_
   refine ⟨rfl,_,rfl,?_⟩
   refine zb za false [] 200 rfl AllP.n ?_
   refine z9G (F0:=[(26,.p (.lst 3 false (k+1) fun q=>[.int .i64 (Int.ofNat (g q))]))]) (z5j (i:=5) rfl (z8a rfl (Nat.le_refl _) (Nat.le_refl _) z3E)) rfl rfl rfl rfl rfl rfl rfl
    (VP.imp (zgK (b:=false) (l:=row) (by omega) hrow) ⟨himp,trivial⟩) rfl ?_
   refine zb za false [] 200 rfl AllP.n ?_
   refine zf3 rfl rfl (PureR.call rfl rfl rfl (fun S Z j vs hS hv=>z7q hS hv rfl h12 hM)) ?_
   refine zb za false [] 200 rfl AllP.n ?_
   refine VSt.cond rfl (fun h1=>?_) (fun h1=>?_)
   ·have h1:z3j h p row=true:=h1
    refine zb za false [] 200 rfl AllP.n ?_
    have hml:(row.map Int.ofNat).length=k+1:=by rw [List.length_map,hlen]
    refine ziS (F0:=[(29,.p (.lst 3 false (k+1) fun q=>[.int .i64 (Int.ofNat (g q))]))]) (z5j (i:=5) rfl (z8a rfl (Nat.le_refl _) (Nat.le_refl _) z3E)) rfl rfl rfl rfl rfl rfl rfl
     (fun S Z j vs h1 h2 h3=>zir (l:=row.map Int.ofNat) (by omega) (by omega) S Z j vs h1 ((show AImps [.p (.lst 3 false (k+1) fun q=>[.int .i64 (Int.ofNat (g q))])] [.p (zij false row)] from ⟨himp,trivial⟩).vrs h2) h3)
     (fun k hk=>rfl) ?_
    refine zb za false [] 200 rfl AllP.n ?_
    exact .inr ⟨rfl,h1,[],g,_,_,Vw.sub' (z5t z0d),rfl,_,rfl,AV.p.inj (zf2 (l:=row.map Int.ofNat) rfl)⟩
   ·have h1:z3j h p row=false:=h1
    refine zb za false [] 200 rfl AllP.n ?_
    exact .inl ⟨rfl,h1,[],g,_,Vw.sub' (z5t z0d),hg,rfl⟩
 ·rcases ha with ⟨hno,c,g,X,rfl,rfl⟩ | ⟨row,hyes,c,g,X,e2,G3,he,rfl,rfl,a,rfl,rfl⟩
  ·have hnx:cfF (z3j h p) (k+1)=none:=by
    show (match cfF (z3j h p) k with | some row=>some row | none=>fnd (z3j h p) k 0 [])=none
    rw [hp];exact hno
   cases c with
   | zero =>
    refine ⟨_,_,_,.normal,_,_,_,_,rfl,rfl,rfl,?_⟩
    refine zb za false [] 200 rfl (AllP.c (by unfold inR;(try simp only [Int.ofNat_eq_natCast]);omega) AllP.n) ?_
    refine ⟨g2,?_,hnx⟩
    refine zN (ps:=[(10,10),(11,11),(12,12),(13,13)]) ⟨rfl,rfl,(by repeat (first | exact zu | refine zq rfl rfl rfl ?_)),_,rfl,(⟨rfl,BImp.refl _,rfl,BImp.refl _,rfl,BImp.refl _,rfl,BImp.refl _,trivial⟩)⟩
   | succ c =>
    refine ⟨_,_,_,.normal,_,_,_,_,rfl,rfl,rfl,?_⟩
    refine zb za false [] 200 rfl (AllP.c (by unfold inR;(try simp only [Int.ofNat_eq_natCast]);omega) AllP.n) ?_
    refine ⟨g2,?_,hnx⟩
    refine zN (ps:=[(10,10),(11,11),(12,12),(13,13)]) ⟨rfl,rfl,(by repeat (first | exact zu | refine zq rfl rfl rfl ?_)),_,rfl,(⟨rfl,BImp.refl _,rfl,BImp.refl _,rfl,BImp.refl _,rfl,BImp.refl _,trivial⟩)⟩
  ·have hcf:cfF (z3j h p) 13=some row:=by
    have key:∀ d,cfF (z3j h p) (k+1+d)=some row:=fun d=>by
     induction d with
     | zero =>
      show (match cfF (z3j h p) k with | some row=>some row | none=>fnd (z3j h p) k 0 [])=some row
      rw [hp];exact hyes
     | succ d ih =>
      show (match cfF (z3j h p) (k+1+d) with | some row=>some row | none=>fnd (z3j h p) (k+1+d) 0 [])=some row
      rw [ih]
    have:=key (12 - k)
    rwa [show k+1+(12 - k)=13 by omega] at this
   have e1:cfE h p=0:=by unfold cfE;rw [if_pos e,hcf]
   have e2:cfV h p=row.map Int.ofNat:=by unfold cfV;rw [if_pos e,hcf]
   rw [e1,e2]
   cases c with
   | zero =>
    refine ⟨_,_,_,.ret,_,_,_,_,rfl,rfl,rfl,?_⟩
    refine zb za false [] 200 rfl AllP.n ?_
    exact ⟨rfl,_,rfl,rfl,AImp.refl _⟩
   | succ c =>
    refine ⟨_,_,_,.ret,_,_,_,_,rfl,rfl,rfl,?_⟩
    refine zb za false [] 200 rfl AllP.n ?_
    exact ⟨rfl,_,rfl,rfl,AImp.refl _⟩
end Go.Proofs.YtdpipdniklognaaGreat
