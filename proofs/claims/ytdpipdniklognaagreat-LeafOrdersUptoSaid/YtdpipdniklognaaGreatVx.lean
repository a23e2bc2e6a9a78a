/- The program's LeafOrders returns true for all heaps, papers, numbers, orders and holes, valid or not, without an exception and without changing its arguments: a part of the proof. -/
import Derived.Test.YtdpipdniklognaaGreatVp
import Derived.Test.YtdpipdniklognaaGreatVd
import Derived.WalkKit
import Derived.Test.YtdpipdniklognaaGreatVe
set_option linter.all false
/- The table of this program's types. -/
set_option maxRecDepth 100000
namespace Go.Proofs.YtdpipdniklognaaGreat
noncomputable def tb:Tab:=[
 (3,⟨1,false,.int .i64,[.int .i64 (0)]⟩),
 (25,⟨2,true,.struct false [(0,1,false),(1,1,false)],[.lst 0 true 0 fun _=>[],.lst 0 true 0 fun _=>[]]⟩),
 (74,⟨6,true,.struct true [(0,1,false),(1,1,false),(2,1,false),(3,1,false),(4,1,false),(5,1,false)],[.int .i64 (0),.int .i64 (0),.int .i64 (0),.int .i64 (0),.int .i64 (0),.int .i64 (0)]⟩),
 (58,⟨2,true,.struct true [(0,1,false),(1,1,false)],[.int .i64 (0),.int .i64 (0)]⟩),
 (37,⟨1,false,.slice 3 1,[.lst 0 true 0 fun _=>[]]⟩),
 (22,⟨1,false,.slice 74 6,[.lst 0 true 0 fun _=>[]]⟩),
 (23,⟨1,false,.slice 58 2,[.lst 0 true 0 fun _=>[]]⟩),
 (28,⟨1,false,.int .i64,[.int .i64 (0)]⟩),
 (32,⟨2,true,.struct true [(0,1,false),(1,1,false)],[.int .i64 (0),.int .i64 (0)]⟩),
 (113,⟨1,false,.int .i64,[.int .i64 (0)]⟩),
 (66,⟨3,true,.arr 3 1 false,[.int .i64 (0),.int .i64 (0),.int .i64 (0)]⟩),
 (27,⟨5,true,.struct true [(0,1,false),(1,1,false),(2,1,false),(3,1,false),(4,1,false)],[.int .i64 (0),.int .i64 (0),.int .i64 (0),.int .i64 (0),.int .i64 (0)]⟩),
 (86,⟨1,false,.slice 37 1,[.lst 0 true 0 fun _=>[]]⟩),
 (51,⟨4,true,.struct false [(0,1,false),(1,1,false),(2,1,false),(3,1,false)],[.lst 0 true 0 fun _=>[],.lst 0 true 0 fun _=>[],.lst 0 true 0 fun _=>[],.lst 0 true 0 fun _=>[]]⟩),
 (185,⟨1,false,.int .u64,[.int .u64 (0)]⟩),
 (106,⟨1,false,.func,[.nilf]⟩),
 (159,⟨2,true,.struct false [(0,1,false),(1,1,false)],[.lst 0 true 0 fun _=>[],.int .i64 (0)]⟩),
 (4,⟨1,false,.bool,[.bool false]⟩),
 (52,⟨2,true,.arr 2 1 false,[.int .i64 (0),.int .i64 (0)]⟩),
 (149,⟨1,false,.int .u64,[.int .u64 (0)]⟩),
 (189,⟨1,false,.ptr,[.nilp]⟩),
 (108,⟨1,false,.mapA (.bool false),[.nilm]⟩),
 (116,⟨1,false,.slice 159 2,[.lst 0 true 0 fun _=>[]]⟩),
 (82,⟨1,false,.map,[.nilm]⟩),
 (49,⟨1,false,.slice 52 2,[.lst 0 true 0 fun _=>[]]⟩),
 (179,⟨1,false,.int .u64,[.int .u64 (0)]⟩),
 (177,⟨1,false,.int .u32,[.int .u32 (0)]⟩),
 (48,⟨1,false,.slice 66 3,[.lst 0 true 0 fun _=>[]]⟩),
 (5,⟨1,false,.int .u8,[.int .u8 (0)]⟩),
 (42,⟨1,false,.func,[.nilf]⟩),
 (119,⟨1,false,.func,[.nilf]⟩),
 (121,⟨1,false,.mapI,[.nilm]⟩),
 (125,⟨1,false,.func,[.nilf]⟩),
 (141,⟨1,false,.func,[.nilf]⟩),
 (146,⟨1,false,.func,[.nilf]⟩),
 (169,⟨1,false,.int .i64,[.int .i64 (0)]⟩),
 (157,⟨1,false,.slice 4 1,[.lst 0 true 0 fun _=>[]]⟩),
 (9,⟨1,false,.str,[.str ⟨#[]⟩]⟩),
 (155,⟨1,false,.func,[.nilf]⟩),
 (162,⟨1,false,.func,[.nilf]⟩)]
theorem z7 {r:Rm}:zH (sE r) tb=true:=by kernel_rfl
end Go.Proofs.YtdpipdniklognaaGreat
/- Loose sheets by value; what the walks of this layer use. -/
set_option maxRecDepth 100000
namespace Go.Proofs.YtdpipdniklognaaGreat
def wth (n lo hi:Int):Bool:=decide (lo≤n)&&decide (n≤hi)
theorem wth_iff {n lo hi:Int}:wth n lo hi=true ↔ lo≤n∧n≤hi:=by
 unfold wth;rw [Bool.and_eq_true,decide_eq_true_iff,decide_eq_true_iff]
theorem z0a {α : Type} {l:List α} {k:Nat} {d : α} (h:k<l.length):l.getD k d=l[k]:=by
 rw [List.getD_eq_getElem?_getD,List.getElem?_eq_getElem h];rfl
theorem z0e {α : Type} {l:List α} {k:Nat} {d : α} (h:k<l.length):l.getD k d∈l:=by
 rw [z0a h];exact List.getElem_mem h
theorem z0u {α : Type} {l:List α} {x d : α} (h:x∈l):∃ k,k<l.length∧l.getD k d=x:=by
 obtain ⟨k,hk,e⟩:=List.mem_iff_getElem.1 h
 exact ⟨k,hk,by rw [z0a hk];exact e⟩
def zf5 (p:Nat→Bool) (n:Nat):Bool:=(List.range n).all p
theorem allB_iff {p:Nat→Bool} {n:Nat}:zf5 p n=true ↔ ∀ k,k<n→p k=true:=by
 unfold zf5;rw [List.all_eq_true]
 exact ⟨fun h k hk=>h k (List.mem_range.2 hk),fun h k hk=>h k (List.mem_range.1 hk)⟩
theorem z4n {p:Nat→Bool} {n k:Nat} (hk:k<n) (h:p k=false):zf5 p n=false:=by
 rw [←Bool.not_eq_true]
 intro h1
 rw [allB_iff.1 h1 k hk] at h;cases h
def z6f {α : Type} (l:List α) (p : α → Bool):Int:=match l.findIdx? p with
 | some k=>k
 | none=> -1
section
variable {α : Type} [Inhabited α]
theorem zm0 {l:List α} {k:Nat} (h:k<l.length):l.getD k default=l[k]:=by
 rw [List.getD_eq_getElem?_getD,List.getElem?_eq_getElem h];rfl
theorem z4e {l:List α} {k:Nat} {p : α → Bool} (hk:k<l.length) (h:p (l.getD k default)=true) (hb:∀ i,i<k→p (l.getD i default)=false):z6f l p=k:=by
 unfold z6f
 have:l.findIdx? p=some k:=by
  rw [List.findIdx?_eq_some_iff_getElem]
  refine ⟨hk,by rw [zm0 hk] at h;exact h,fun j hj=>?_⟩
  have:=hb j hj
  rw [zm0 (by omega)] at this
  simp [this]
 rw [this]
theorem z5c {l:List α} {p : α → Bool} (hb:∀ i,i<l.length→p (l.getD i default)=false):z6f l p = -1:=by
 unfold z6f
 have:l.findIdx? p=none:=by
  rw [List.findIdx?_eq_none_iff]
  intro x hx
  obtain ⟨k,hk,rfl⟩:=List.mem_iff_getElem.1 hx
  have:=hb k hk
  rwa [zm0 hk] at this
 rw [this]
theorem z5Q {l:List α} {p : α → Bool} {k:Nat} (h:z6f l p=Int.ofNat k):k<l.length∧p (l.getD k default)=true∧∀ i,i<k→p (l.getD i default)=false:=by
 unfold z6f at h
 cases hf:l.findIdx? p with
 | none=>rw [hf] at h;exact absurd h (by intro h;cases h)
 | some i =>
  rw [hf] at h
  have:i=k:=Int.ofNat_inj.1 h
  subst this
  rw [List.findIdx?_eq_some_iff_getElem] at hf
  obtain ⟨h1,h2,h3⟩:=hf
  refine ⟨h1,by rw [zm0 h1];exact h2,fun j hj=>?_⟩
  rw [zm0 (by omega)]
  simpa using h3 j hj
omit [Inhabited α] in
theorem z9G {l:List α} {p : α → Bool} (h:z6f l p = -1):l.filter (fun x=>!p x)=l:=by
 unfold z6f at h
 cases hf:l.findIdx? p with
 | some i=>rw [hf] at h;exact absurd h (by intro h;cases h)
 | none =>
  rw [List.findIdx?_eq_none_iff] at hf
  exact List.filter_eq_self.2 fun x hx=>by rw [hf x hx];rfl
omit [Inhabited α] in
theorem z5R (l:List α) (p : α → Bool):z6f l p = -1∨∃ k,z6f l p=Int.ofNat k:=by
 unfold z6f
 split
 ·exact .inr ⟨_,rfl⟩
 ·exact .inl rfl
theorem z29 (l:List α) {k:Nat} (h:k<l.length):l.take (k+1)=l.take k++[l.getD k default]:=by
 rw [List.take_add_one,zm0 h,List.getElem?_eq_getElem h];rfl
theorem z30 (l:List α) (q : α → Bool) {k:Nat} (h:k<l.length):(l.take (k+1)).filter q=bif q (l.getD k default) then (l.take k).filter q++[l.getD k default] else (l.take k).filter q:=by
 rw [z29 l h,List.filter_append]
 cases hq:q (l.getD k default) with
 | true=>rw [List.filter_cons_of_pos hq];rfl
 | false=>rw [List.filter_cons_of_neg (by rw [hq];decide)];simp
theorem z8l {l:List α} {p : α → Bool}:∀ {k:Nat},k≤l.length→(∀ i,i<k→p (l.getD i default)=false)→(l.take k).filter (fun x=>!p x)=l.take k
 | 0,_,_=>rfl
 | k+1,h,hp=>by
  rw [z30 l _ (by omega),z8l (by omega) (fun i hi=>hp i (by omega)),hp k (by omega),z29 l (by omega)];rfl
structure DelInv (l:List α) (p : α → Bool) (j i:Nat) (g:Nat→α):Prop where
 le:j≤l.length
 lt:i<j
 len:i=((l.take j).filter (fun x=>!p x)).length
 done:∀ q,q<i→g q=((l.take j).filter (fun x=>!p x)).getD q default
 rest:∀ q,j≤q→g q=l.getD q default
theorem DelInv.start {l:List α} {p : α → Bool} {k0:Nat} (h:k0<l.length∧p (l.getD k0 default)=true∧∀ i,i<k0→p (l.getD i default)=false):DelInv l p (k0+1) k0 (fun q=>l.getD q default):=by
 have e1:(l.take (k0+1)).filter (fun x=>!p x)=l.take k0:=by
  rw [z30 l _ h.1,h.2.1,z8l (by omega) h.2.2];rfl
 refine ⟨h.1,Nat.lt_succ_self _,?_,fun q hq=>?_,fun q _=>rfl⟩
 ·rw [e1,List.length_take];omega
 ·rw [e1]
  simp only [List.getD_eq_getElem?_getD]
  rw [List.getElem?_take,if_pos hq]
theorem DelInv.skip {l:List α} {p : α → Bool} {j i:Nat} {g:Nat→α} (h:DelInv l p j i g) (hj:j<l.length) (hp:p (l.getD j default)=true):DelInv l p (j+1) i g:=by
 have e1:(l.take (j+1)).filter (fun x=>!p x)=(l.take j).filter (fun x=>!p x):=by
  rw [z30 l _ hj,hp];rfl
 exact ⟨hj,Nat.lt_succ_of_lt h.lt,by rw [e1];exact h.len,fun q hq=>by rw [e1];exact h.done q hq,fun q h1=>h.rest q (by omega)⟩
theorem DelInv.keep {l:List α} {p : α → Bool} {j i:Nat} {g:Nat→α} (h:DelInv l p j i g) (hj:j<l.length) (hp:p (l.getD j default)=false):DelInv l p (j+1) (i+1) (fun q=>if q=i then g j else g q):=by
 have e1:(l.take (j+1)).filter (fun x=>!p x)=(l.take j).filter (fun x=>!p x)++[l.getD j default]:=by
  rw [z30 l _ hj,hp];rfl
 have hij:=h.lt
 refine ⟨hj,by omega,by rw [e1,List.length_append,←h.len];rfl,fun q hq=>?_,fun q h1=>?_⟩
 ·rw [e1]
  simp only [List.getD_eq_getElem?_getD]
  by_cases c:q=i
  ·subst c
   rw [if_pos rfl,List.getElem?_append_right (by rw [←h.len];exact Nat.le_refl _),←h.len,Nat.sub_self,h.rest j (Nat.le_refl _)];rfl
  ·rw [if_neg c,List.getElem?_append_left (by rw [←h.len];omega),h.done q (by omega),List.getD_eq_getElem?_getD]
 ·show (if q=i then _ else _)=_
  rw [if_neg (by omega),h.rest q (by omega)]
theorem DelInv.all {l:List α} {p : α → Bool} {i:Nat} {g:Nat→α} (h:DelInv l p l.length i g):i=(l.filter (fun x=>!p x)).length∧∀ q,q<i→g q=(l.filter (fun x=>!p x)).getD q default:=by
 have h1:=h.len
 have h2:=h.done
 rw [List.take_length] at h1 h2
 exact ⟨h1,h2⟩
end
theorem nlt {k n:Nat} (h:decide (Int.ofNat k<Int.ofNat n)=true):k<n:=by
 have:=of_decide_eq_true h;simp only [Int.ofNat_eq_natCast] at this;omega
theorem nge {k n:Nat} (h:decide (Int.ofNat k<Int.ofNat n)=false):n≤k:=by
 have:=of_decide_eq_false h;simp only [Int.ofNat_eq_natCast] at this;omega
theorem n0 {k:Nat} (h:decide ((0:Int)<Int.ofNat k)=true):0<k:=by
 have:=of_decide_eq_true h;simp only [Int.ofNat_eq_natCast] at this;omega
theorem n0' {k:Nat} (h:decide ((0:Int)<Int.ofNat k)=false):k=0:=by
 have:=of_decide_eq_false h;simp only [Int.ofNat_eq_natCast] at this;omega
theorem nt {b:Bool} (h:(!b)=true):b=false:=by cases b <;> first | rfl | cases h
theorem nf {b:Bool} (h:(!b)=false):b=true:=by cases b <;> first | rfl | cases h
theorem z9i {k:Nat} (h:0<k):AImp (iv (Int.ofNat k - 1)) (nv (k - 1)):=z0I (by simp only [Int.ofNat_eq_natCast];omega)
theorem z0d {p:Nat→Prop} {k:Nat} (h:∀ i,i<k→p i) (hk:p k):∀ i,i<k+1→p i:=fun i hi=>by
 by_cases e:i=k
 ·subst e;exact hk
 ·exact h i (by omega)
theorem none0 {p:Nat→Prop}:∀ i,i<0→p i:=fun i hi=>absurd hi (Nat.not_lt_zero i)
structure Sht where
 id:Int
 paper:Int
 first:Int
 catch_:Int
 holes:Int
 unsure:Int
structure Sew where
 fro:Int
 too:Int
instance:Inhabited Sht:=⟨⟨0,0,0,0,0,0⟩⟩
instance:Inhabited Sew:=⟨⟨0,0⟩⟩
def za (l:List Sht) (k:Nat):Sht:=l.getD k default
def zy (l:List Sew) (k:Nat):Sew:=l.getD k default
def zR (s:Sht):List PV:=[.int .i64 s.id,.int .i64 s.paper,.int .i64 s.first,.int .i64 s.catch_,.int .i64 s.holes,.int .i64 s.unsure]
def zf4 (x:Sew):List PV:=[.int .i64 x.fro,.int .i64 x.too]
def fS (l:List Sht):Nat→List PV:=fun k=>zR (za l k)
def fW (l:List Sew):Nat→List PV:=fun k=>zf4 (zy l k)
def z0W (b:Bool) (l:List Sht):PV:=.lst 74 b l.length (fS l)
def zcE (b:Bool) (l:List Sew):PV:=.lst 58 b l.length (fW l)
def z3E (b:Bool) (l:List Int):PV:=.lst 3 b l.length fun k=>[.int .i64 (l.getD k 0)]
structure Hp where
 st:List Sht
 stB:Bool
 sw:List Sew
 swB:Bool
def eHp (h:Hp):List PV:=[z0W h.stB h.st,zcE h.swB h.sw]
theorem zhw {a b:Nat} (h:a<b):Nat.blt a b=true:=by simpa using h
theorem zhx {a b:Nat} (h:¬ a<b):Nat.blt a b=false:=by rw [←Bool.not_eq_true];simpa using h
variable {r:Rm}
theorem PureA.conv {E:Env} {F:VK} {L:VS} {src dst:TypeId} {x:Operand} {ka kc:IntKind} {a c:Int} (hx:av F x=some (.p (.int ka a))) (h:(ob (E.ti.get src) fun _=>ob (E.ti.get dst) fun i=>z7X i.desc (.int ka a))=some (.int kc c)):PureA E F L (.convert src dst x) (.p (.int kc c)):=fun T S Z j h2 h3=>by
 obtain ⟨v,h4,h5⟩:=h3.ev hx
 cases h5 with
 | p h5 =>
  cases h5
  refine ⟨.int kc c,fun cF dF=>?_,.p (.int _ _)⟩
  show ob (ob (E.ti.get src) fun _=>ob (T.ev x) fun a=>ob (E.ti.get dst) fun i=>z7X i.desc a) (fun v=>some (v,S))=_
  rw [h4]
  show ob (ob (E.ti.get src) fun _=>ob (E.ti.get dst) fun i=>z7X i.desc (.int ka a)) (fun v=>some (v,S))=_
  rw [h];rfl
theorem PureA.bin {E:Env} {F:VK} {L:VS} {op:BinOp} {t kd:TypeId} {x y:Operand} {ka kb kc:IntKind} {a b c:Int} (hx:av F x=some (.p (.int ka a))) (hy:av F y=some (.p (.int kb b))) (h:z3w E op t (.int ka a) (.int kb b)=some (.int kc c)):PureA E F L (.binOp op t x y kd) (.p (.int kc c)):=fun T S Z j h2 h3=>by
 obtain ⟨v,h4,h5⟩:=h3.ev hx
 obtain ⟨w,h6,h7⟩:=h3.ev hy
 cases h5 with
 | p h5 =>
  cases h5
  cases h7 with
  | p h7 =>
   cases h7
   refine ⟨.int kc c,fun cF dF=>?_,.p (.int _ _)⟩
   show ob (ob (T.ev x) fun a=>ob (T.ev y) fun b=>z3w E op t a b) (fun v=>some (v,S))=_
   rw [h4,h6]
   show ob (z3w E op t (.int ka a) (.int kb b)) (fun v=>some (v,S))=_
   rw [h];rfl
theorem VP.to {E:Env} {f:FuncId} {args:List AV} {a b:AV} (h:VP E f args a) (hi:AImp a b) (ho:b.only (fun _=>false)=true):VP E f args b:=⟨ho,fun S Z j vs h1 h2 h3=>by
 obtain ⟨n,v,S',k1,a',L',Z',j',k2,k3,k4,k5,k6,rfl,rfl⟩:=h.2 S Z j vs h1 h2 h3
 exact ⟨n,v,S',k1,b,[],Z',j',k2,hi _ _ _ _ _ k3,k4,k5,k6,rfl,rfl⟩⟩
theorem z7C {n:Int} (h:0≤n):∃ m:Nat,n=Int.ofNat m:=⟨n.toNat,(Int.toNat_of_nonneg h).symm⟩
theorem wrap_u64 {n:Nat} (h:n<9223372036854775808):IntKind.u64.wrap (Int.ofNat n)=Int.ofNat n:=by
 simp only [IntKind.wrap,IntKind.bits,IntKind.signed,Bool.false_and,Int.ofNat_eq_natCast]
 rw [if_neg (by decide)]
 omega
theorem wrap_i64 {n:Nat} (h:n<9223372036854775808):IntKind.i64.wrap (Int.ofNat n)=Int.ofNat n:=wrap64 (by simp only [Int.ofNat_eq_natCast];omega) (by simp only [Int.ofNat_eq_natCast];omega)
theorem zmb {i j:Nat} (h:i+j<9223372036854775808):(ob ((sE r).ti.get 3) fun _=>ob ((sE r).ti.get 149) fun d=>z7X d.desc (.int .i64 (Int.ofNat i+Int.ofNat j)))=some (.int .u64 (Int.ofNat (i+j))):=by
 show some (Value.int .u64 (IntKind.u64.wrap (Int.ofNat (i+j))))=_
 rw [wrap_u64 h]
theorem zmd {n:Nat} (h:n<9223372036854775808):(ob ((sE r).ti.get 149) fun _=>ob ((sE r).ti.get 3) fun d=>z7X d.desc (.int .u64 (Int.ofNat n)))=some (.int .i64 (Int.ofNat n)):=by
 show some (Value.int .i64 (IntKind.i64.wrap (Int.ofNat n)))=_
 rw [wrap_i64 h]
theorem ziW {E:Env} {t:TypeId} {n:Nat}:z3w E .shr t (.int .u64 (Int.ofNat n)) (.int .u64 1)=some (.int .u64 (Int.ofNat (n / 2))):=by
 show some (Value.int .u64 ((Int.ofNat n).fdiv 2))=_
 rw [Int.ofNat_eq_natCast,Int.fdiv_eq_ediv_of_nonneg _ (by decide)]
 rfl
end Go.Proofs.YtdpipdniklognaaGreat
/- Walks: whether a sheet is valid, the program's and the reference's. -/
set_option maxRecDepth 100000
namespace Go.Proofs.YtdpipdniklognaaGreat
variable {r:Rm}
theorem zcv (n lo hi:Int):VP (sE r) 102 [iv n,iv lo,iv hi] (bv (wth n lo hi)):=by
 refine VP.of (fn:=Tryz.f102) z7 (zu rfl) (by kernel_rfl) rfl rfl rfl ?_
 refine VSt.go z7 false [] 200 rfl AllP.n ?_
 refine zg 10 rfl (fun h=>?_) (fun h=>?_)
 ·refine VSt.go z7 false [] 200 rfl AllP.n ?_
  refine EndsP.mk rfl rfl rfl ?_
  show bv _=bv _
  unfold wth;rw [show decide (lo≤n)=true from h];rfl
 ·refine VSt.go z7 false [] 200 rfl AllP.n ?_
  refine EndsP.mk rfl rfl rfl ?_
  show bv _=bv _
  unfold wth;rw [show decide (lo≤n)=false from h];rfl
theorem z4r (n lo hi:Int):VP (sE r) 95 [iv n,iv lo,iv hi] (bv (wth n lo hi)):=by
 refine VP.of (fn:=Tryz.f95) z7 (zu rfl) (by kernel_rfl) rfl rfl rfl ?_
 refine VSt.go z7 false [] 200 rfl AllP.n ?_
 refine zg 10 rfl (fun h=>?_) (fun h=>?_)
 ·refine VSt.go z7 false [] 200 rfl AllP.n ?_
  refine EndsP.mk rfl rfl rfl ?_
  show bv _=bv _
  unfold wth;rw [show decide (lo≤n)=true from h];rfl
 ·refine VSt.go z7 false [] 200 rfl AllP.n ?_
  refine EndsP.mk rfl rfl rfl ?_
  show bv _=bv _
  unfold wth;rw [show decide (lo≤n)=false from h];rfl
theorem z8x (n:Int):VP (sE r) 115 [iv n] (bv (wth n 1 999)):=by
 refine VP.of (fn:=Tryz.f115) z7 (zu rfl) (by kernel_rfl) rfl rfl rfl ?_
 refine VSt.go z7 false [] 200 rfl AllP.n ?_
 refine VSt.pc rfl rfl rfl rfl rfl rfl rfl rfl ((zcv n 1 999)) ?_
 refine VSt.go z7 false [] 200 rfl AllP.n ?_
 exact EndsP.mk rfl rfl rfl rfl
theorem z7z (n:Int):VP (sE r) 94 [iv n] (bv (wth n 0 11)):=by
 refine VP.of (fn:=Tryz.f94) z7 (zu rfl) (by kernel_rfl) rfl rfl rfl ?_
 refine VSt.go z7 false [] 200 rfl AllP.n ?_
 refine VSt.pc rfl rfl rfl rfl rfl rfl rfl rfl ((zcv n 0 11)) ?_
 refine VSt.go z7 false [] 200 rfl AllP.n ?_
 exact EndsP.mk rfl rfl rfl rfl
theorem zhV {a b:Nat}:a ^^^ b=0 ↔ a=b:=by
 refine ⟨fun h=>Nat.eq_of_testBit_eq fun i=>?_,fun h=>by rw [h,Nat.xor_self]⟩
 have:=congrArg (fun n=>n.testBit i) h
 simp only [Nat.testBit_xor,Nat.zero_testBit] at this
 cases h1:a.testBit i <;> cases h2:b.testBit i <;> rw [h1,h2] at this <;> first | rfl | cases this
theorem zeS (m:Nat):((Int.ofNat (m ^^^ (m &&& 4095))==0):Bool)=decide (m≤4095):=by
 have h1:m &&& 4095=m % 4096:=Nat.and_two_pow_sub_one_eq_mod m 12
 rw [h1,Bool.eq_iff_iff,beq_iff_eq,decide_eq_true_iff]
 have h2:m ^^^ (m % 4096)=0 ↔ m=m % 4096:=zhV
 rw [show (Int.ofNat (m ^^^ (m % 4096))=0) ↔ m ^^^ (m % 4096)=0 from by simp only [Int.ofNat_eq_natCast];omega,h2]
 omega
theorem zf8 {m:Nat} (hm:m<9223372036854775808):VP (sE r) 149 [iv (Int.ofNat m),iv 4095] (bv (decide (m≤4095))):=by
 refine VP.of (fn:=Tryz.f149) z7 (zu rfl) (by kernel_rfl) rfl rfl rfl ?_
 refine VSt.go z7 false [] 200 rfl ((AllP.c hm (AllP.c (by decide) AllP.n))) ?_
 refine EndsP.mk rfl rfl rfl ?_
 show bv _=bv _
 rw [←zeS]
theorem z8w {n:Int} (hn:inR n):VP (sE r) 116 [iv n] (bv (wth n 0 4095)):=by
 by_cases h0:0≤n
 ·obtain ⟨m,rfl⟩:=z7C h0
  have hm:m<9223372036854775808:=by have:=hn.2;simp only [Int.ofNat_eq_natCast] at this;omega
  refine VP.of (fn:=Tryz.f116) z7 (zu rfl) (by kernel_rfl) rfl rfl rfl ?_
  refine VSt.go z7 false [] 200 rfl AllP.n ?_
  refine zg 5 rfl (fun h=>?_) (fun h=>?_)
  rotate_left
  ·exact absurd (show decide (0≤Int.ofNat m)=false from h) (by rw [decide_eq_true h0];decide)
  refine VSt.go z7 false [] 200 rfl AllP.n ?_
  refine VSt.pc rfl rfl rfl rfl rfl rfl rfl rfl ((zf8 hm)) ?_
  refine VSt.go z7 false [] 200 rfl AllP.n ?_
  refine EndsP.mk rfl rfl rfl ?_
  show bv _=bv _
  unfold wth
  rw [decide_eq_true h0,Bool.true_and]
  congr 2
  exact propext ⟨fun h=>by simp only [Int.ofNat_eq_natCast];omega,fun h=>by simp only [Int.ofNat_eq_natCast] at h;omega⟩
 ·refine VP.of (fn:=Tryz.f116) z7 (zu rfl) (by kernel_rfl) rfl rfl rfl ?_
  refine VSt.go z7 false [] 200 rfl AllP.n ?_
  refine zg 5 rfl (fun h=>?_) (fun h=>?_)
  ·exact absurd (of_decide_eq_true (show decide (0≤n)=true from h)) h0
  refine VSt.go z7 false [] 200 rfl AllP.n ?_
  refine EndsP.mk rfl rfl rfl ?_
  show bv _=bv _
  unfold wth
  rw [decide_eq_false h0];rfl
def zl4 (a b:Int):Bool:=!(Int.ofNat (a.toNat &&& b.toNat)==0)
theorem ziM {m k:Nat} (hm:m<9223372036854775808) (hk:k<9223372036854775808):VP (sE r) 117 [iv (Int.ofNat m),iv (Int.ofNat k)] (bv (zl4 (Int.ofNat m) (Int.ofNat k))):=by
 refine VP.of (fn:=Tryz.f117) z7 (zu rfl) (by kernel_rfl) rfl rfl rfl ?_
 refine VSt.go z7 false [] 200 rfl (AllP.c ‹_› (AllP.c ‹_› AllP.n)) ?_
 exact EndsP.mk rfl rfl rfl rfl
structure OkS (s:Sht):Prop where
 id:wth s.id 1 99=true
 paper:wth s.paper 1 999=true
 first:wth s.first 0 999=true
 catch_:wth s.catch_ 0 999=true
 holes:wth s.holes 0 4095=true
 unsure:wth s.unsure 0 4095=true
 apart:zl4 s.holes s.unsure=false
open Classical in
noncomputable def ckS (s:Sht):Int:=if OkS s then 0 else 50
theorem z1x {s:Sht} (h:¬ OkS s):ckS s=50:=if_neg h
theorem zdQ {s:Sht} (h:OkS s):ckS s=0:=if_pos h
theorem zk0 (s:Sht):(OkS s∧ckS s=0)∨(¬ OkS s∧ckS s=50):=by
 unfold ckS
 by_cases h:OkS s
 ·exact .inl ⟨h,if_pos h⟩
 ·exact .inr ⟨h,if_neg h⟩
structure SzS (s:Sht):Prop where
 holes:inR s.holes
 unsure:inR s.unsure
theorem OkS.sz {s:Sht} (h:OkS s):SzS s:=by
 have h1:=wth_iff.1 h.holes
 have h2:=wth_iff.1 h.unsure
 exact ⟨⟨by omega,by omega⟩,⟨by omega,by omega⟩⟩
set_option maxHeartbeats 4000000 in
theorem zn0 {s:Sht} (hz:SzS s):VP (sE r) 59 [.agg ((zR s).map .p)] (iv (ckS s)):=by
 refine VP.of (fn:=Tryz.f59) z7 (zu rfl) (by kernel_rfl) rfl rfl rfl ?_
 refine VSt.go z7 false [] 200 rfl AllP.n ?_
 refine VSt.pc rfl rfl rfl rfl rfl rfl rfl rfl ((zcv s.id 1 99)) ?_
 refine VSt.go z7 false [] 200 rfl AllP.n ?_
 refine zg 7 rfl (fun a1=>?_) (fun a1=>?_)
 ·refine VSt.go z7 false [] 200 rfl AllP.n ?_
  refine EndsP.mk rfl rfl rfl ?_
  rw [z1x fun h=>by have:=h.id;rw [nt a1] at this;cases this];rfl
 refine VSt.go z7 false [] 200 rfl AllP.n ?_
 refine VSt.pc rfl rfl rfl rfl rfl rfl rfl rfl ((z8x s.paper)) ?_
 refine VSt.go z7 false [] 200 rfl AllP.n ?_
 refine zg 13 rfl (fun a2=>?_) (fun a2=>?_)
 ·refine VSt.go z7 false [] 200 rfl AllP.n ?_
  refine EndsP.mk rfl rfl rfl ?_
  rw [z1x fun h=>by have:=h.paper;rw [nt a2] at this;cases this];rfl
 refine VSt.go z7 false [] 200 rfl AllP.n ?_
 refine VSt.pc rfl rfl rfl rfl rfl rfl rfl rfl ((zcv s.first 0 999)) ?_
 refine VSt.go z7 false [] 200 rfl AllP.n ?_
 refine zg 19 rfl (fun a3=>?_) (fun a3=>?_)
 ·refine VSt.go z7 false [] 200 rfl AllP.n ?_
  refine EndsP.mk rfl rfl rfl ?_
  rw [z1x fun h=>by have:=h.first;rw [nt a3] at this;cases this];rfl
 refine VSt.go z7 false [] 200 rfl AllP.n ?_
 refine VSt.pc rfl rfl rfl rfl rfl rfl rfl rfl ((zcv s.catch_ 0 999)) ?_
 refine VSt.go z7 false [] 200 rfl AllP.n ?_
 refine zg 25 rfl (fun a4=>?_) (fun a4=>?_)
 ·refine VSt.go z7 false [] 200 rfl AllP.n ?_
  refine EndsP.mk rfl rfl rfl ?_
  rw [z1x fun h=>by have:=h.catch_;rw [nt a4] at this;cases this];rfl
 refine VSt.go z7 false [] 200 rfl AllP.n ?_
 refine VSt.pc rfl rfl rfl rfl rfl rfl rfl rfl ((z8w hz.holes)) ?_
 refine VSt.go z7 false [] 200 rfl AllP.n ?_
 refine zg 31 rfl (fun a5=>?_) (fun a5=>?_)
 ·refine VSt.go z7 false [] 200 rfl AllP.n ?_
  refine EndsP.mk rfl rfl rfl ?_
  rw [z1x fun h=>by have:=h.holes;rw [nt a5] at this;cases this];rfl
 refine VSt.go z7 false [] 200 rfl AllP.n ?_
 refine VSt.pc rfl rfl rfl rfl rfl rfl rfl rfl ((z8w hz.unsure)) ?_
 refine VSt.go z7 false [] 200 rfl AllP.n ?_
 refine zg 37 rfl (fun a6=>?_) (fun a6=>?_)
 ·refine VSt.go z7 false [] 200 rfl AllP.n ?_
  refine EndsP.mk rfl rfl rfl ?_
  rw [z1x fun h=>by have:=h.unsure;rw [nt a6] at this;cases this];rfl
 have h5:=wth_iff.1 (nf a5)
 have h6:=wth_iff.1 (nf a6)
 obtain ⟨i1,i2,i3,i4,i5,i6⟩:=s
 obtain ⟨m,rfl⟩:=z7C h5.1
 obtain ⟨k,rfl⟩:=z7C h6.1
 have hm:m<9223372036854775808:=by have:=h5.2;simp only [Int.ofNat_eq_natCast] at this;omega
 have hk:k<9223372036854775808:=by have:=h6.2;simp only [Int.ofNat_eq_natCast] at this;omega
 refine VSt.go z7 false [] 200 rfl AllP.n ?_
 refine VSt.pc rfl rfl rfl rfl rfl rfl rfl rfl ((ziM hm hk)) ?_
 refine VSt.go z7 false [] 200 rfl AllP.n ?_
 refine VSt.cond rfl (fun a7=>?_) (fun a7=>?_)
 ·refine VSt.go z7 false [] 200 rfl AllP.n ?_
  refine EndsP.mk rfl rfl rfl ?_
  rw [z1x fun h=>by have:=h.apart;rw [a7] at this;cases this];rfl
 ·refine VSt.go z7 false [] 200 rfl AllP.n ?_
  refine EndsP.mk rfl rfl rfl ?_
  rw [zdQ ⟨nf a1,nf a2,nf a3,nf a4,nf a5,nf a6,a7⟩];rfl
set_option maxHeartbeats 4000000 in
theorem zkK (s:Sht):VP (sE r) 60 [.agg ((zR s).map .p)] (iv (ckS s)):=by
 refine VP.of (fn:=Tryz.f60) z7 (zu rfl) (by kernel_rfl) rfl rfl rfl ?_
 refine VSt.go z7 false [] 200 rfl AllP.n ?_
 refine VSt.pc rfl rfl rfl rfl rfl rfl rfl rfl ((z4r s.id 1 99)) ?_
 refine VSt.go z7 false [] 200 rfl AllP.n ?_
 refine zg 7 rfl (fun a1=>?_) (fun a1=>?_)
 ·refine VSt.go z7 false [] 200 rfl AllP.n ?_
  refine EndsP.mk rfl rfl rfl ?_
  rw [z1x fun h=>by have:=h.id;rw [nt a1] at this;cases this];rfl
 refine VSt.go z7 false [] 200 rfl AllP.n ?_
 refine VSt.pc rfl rfl rfl rfl rfl rfl rfl rfl ((z4r s.paper 1 999)) ?_
 refine VSt.go z7 false [] 200 rfl AllP.n ?_
 refine zg 13 rfl (fun a2=>?_) (fun a2=>?_)
 ·refine VSt.go z7 false [] 200 rfl AllP.n ?_
  refine EndsP.mk rfl rfl rfl ?_
  rw [z1x fun h=>by have:=h.paper;rw [nt a2] at this;cases this];rfl
 refine VSt.go z7 false [] 200 rfl AllP.n ?_
 refine VSt.pc rfl rfl rfl rfl rfl rfl rfl rfl ((z4r s.first 0 999)) ?_
 refine VSt.go z7 false [] 200 rfl AllP.n ?_
 refine zg 19 rfl (fun a3=>?_) (fun a3=>?_)
 ·refine VSt.go z7 false [] 200 rfl AllP.n ?_
  refine EndsP.mk rfl rfl rfl ?_
  rw [z1x fun h=>by have:=h.first;rw [nt a3] at this;cases this];rfl
 refine VSt.go z7 false [] 200 rfl AllP.n ?_
 refine VSt.pc rfl rfl rfl rfl rfl rfl rfl rfl ((z4r s.catch_ 0 999)) ?_
 refine VSt.go z7 false [] 200 rfl AllP.n ?_
 refine VSt.cond rfl (fun a4=>?_) (fun a4=>?_)
 ·refine VSt.go z7 false [] 200 rfl AllP.n ?_
  refine EndsP.mk rfl rfl rfl ?_
  rw [z1x fun h=>by have:=h.catch_;rw [nt a4] at this;cases this];rfl
 refine VSt.go z7 false [] 200 rfl AllP.n ?_
 refine VSt.pc rfl rfl rfl rfl rfl rfl rfl rfl ((z4r s.holes 0 4095)) ?_
 refine VSt.go z7 false [] 200 rfl AllP.n ?_
 refine zg 29 rfl (fun a5=>?_) (fun a5=>?_)
 ·refine VSt.go z7 false [] 200 rfl AllP.n ?_
  refine EndsP.mk rfl rfl rfl ?_
  rw [z1x fun h=>by have:=h.holes;rw [nt a5] at this;cases this];rfl
 refine VSt.go z7 false [] 200 rfl AllP.n ?_
 refine VSt.pc rfl rfl rfl rfl rfl rfl rfl rfl ((z4r s.unsure 0 4095)) ?_
 refine VSt.go z7 false [] 200 rfl AllP.n ?_
 refine zg 35 rfl (fun a6=>?_) (fun a6=>?_)
 ·refine VSt.go z7 false [] 200 rfl AllP.n ?_
  refine EndsP.mk rfl rfl rfl ?_
  rw [z1x fun h=>by have:=h.unsure;rw [nt a6] at this;cases this];rfl
 have h5:=wth_iff.1 (nf a5)
 have h6:=wth_iff.1 (nf a6)
 obtain ⟨i1,i2,i3,i4,i5,i6⟩:=s
 obtain ⟨m,rfl⟩:=z7C h5.1
 obtain ⟨k,rfl⟩:=z7C h6.1
 have hm:m<9223372036854775808:=by have:=h5.2;simp only [Int.ofNat_eq_natCast] at this;omega
 have hk:k<9223372036854775808:=by have:=h6.2;simp only [Int.ofNat_eq_natCast] at this;omega
 refine VSt.go z7 false [] 200 rfl (AllP.c ‹_› (AllP.c ‹_› AllP.n)) ?_
 refine VSt.cond rfl (fun a7=>?_) (fun a7=>?_)
 ·refine VSt.go z7 false [] 200 rfl AllP.n ?_
  refine EndsP.mk rfl rfl rfl ?_
  rw [z1x fun h=>by have:=h.apart;rw [show zl4 (Int.ofNat m) (Int.ofNat k)=true from a7] at this;cases this];rfl
 ·refine VSt.go z7 false [] 200 rfl AllP.n ?_
  refine EndsP.mk rfl rfl rfl ?_
  rw [zdQ ⟨nf a1,nf a2,nf a3,nf a4,nf a5,nf a6,a7⟩];rfl
end Go.Proofs.YtdpipdniklognaaGreat
/- Walks: where a sheet stands. -/
set_option maxRecDepth 100000
namespace Go.Proofs.YtdpipdniklognaaGreat
variable {r:Rm}
theorem zb1 (a:Int):VP (sE r) 171 [iv a] (bv false):=by
 refine VP.of (fn:=Tryz.f171) z7 (zu rfl) (by kernel_rfl) rfl rfl rfl ?_
 refine VSt.go z7 false [] 200 rfl AllP.n ?_
 refine EndsP.mk rfl rfl rfl ?_
 show bv (!(a==a))=_
 rw [beq_self_eq_true];rfl
def zhU (a b:Int):Int:=if a<b then -1 else if b<a then 1 else 0
theorem zlB (a b:Int):VP (sE r) 133 [iv a,iv b] (iv (zhU a b)):=by
 refine VP.of (fn:=Tryz.f133) z7 (zu rfl) (by kernel_rfl) rfl rfl rfl ?_
 refine VSt.go z7 false [] 200 rfl AllP.n ?_
 refine VSt.pc rfl rfl rfl rfl rfl rfl rfl rfl ((zb1 a)) ?_
 refine VSt.go z7 false [] 200 rfl AllP.n ?_
 refine VSt.pc rfl rfl rfl rfl rfl rfl rfl rfl ((zb1 b)) ?_
 refine VSt.go z7 false [] 200 rfl AllP.n ?_
 refine VSt.cond rfl (fun h=>absurd h (by decide)) (fun _=>?_)
 refine VSt.go z7 false [] 200 rfl AllP.n ?_
 refine VSt.cond rfl (fun h=>absurd h (by decide)) (fun _=>?_)
 refine VSt.go z7 false [] 200 rfl AllP.n ?_
 refine VSt.cond rfl (fun h=>?_) (fun h=>?_)
 ·refine VSt.go z7 false [] 200 rfl AllP.n ?_
  refine EndsP.mk rfl rfl rfl ?_
  show iv _=iv _
  unfold zhU;rw [if_pos (of_decide_eq_true h)]
 ·refine VSt.go z7 false [] 200 rfl AllP.n ?_
  have h:=of_decide_eq_false h
  refine VSt.cond rfl (fun h2=>?_) (fun h2=>?_)
  ·refine VSt.go z7 false [] 200 rfl AllP.n ?_
   refine EndsP.mk rfl rfl rfl ?_
   show iv _=iv _
   unfold zhU;rw [if_neg h,if_pos (of_decide_eq_true h2)]
  ·refine VSt.go z7 false [] 200 rfl AllP.n ?_
   refine EndsP.mk rfl rfl rfl ?_
   show iv _=iv _
   unfold zhU;rw [if_neg h,if_neg (of_decide_eq_false h2)]
theorem cmp_lt {a b:Int}:decide (zhU a b<0)=decide (a<b):=by
 unfold zhU
 by_cases h:a<b
 ·rw [if_pos h,decide_eq_true h];rfl
 ·rw [if_neg h,decide_eq_false h]
  split <;> rfl
theorem cmp_eq {a b:Int}:(zhU a b==0)=(a==b):=by
 unfold zhU
 by_cases h:a<b
 ·rw [if_pos h,beq_false_of_ne (show a≠b by omega)];rfl
 ·rw [if_neg h]
  by_cases h2:b<a
  ·rw [if_pos h2,beq_false_of_ne (show a≠b by omega)];rfl
  ·have:a=b:=by omega
   subst this
   rw [if_neg h2,beq_self_eq_true,beq_self_eq_true]
theorem zbi (o:Sht) (s:Int):VP (sE r) 139 [.agg ((zR o).map .p),iv s] (iv (zhU o.id s)):=by
 refine VP.of (fn:=Tryz.f139) z7 (zu rfl) (by kernel_rfl) rfl rfl rfl ?_
 refine VSt.go z7 false [] 200 rfl AllP.n ?_
 refine VSt.pc rfl rfl rfl rfl rfl rfl rfl rfl ((zlB o.id s)) ?_
 refine VSt.go z7 false [] 200 rfl AllP.n ?_
 exact EndsP.mk rfl rfl rfl rfl
def Rising (l:List Sht):Prop:=∀ i,0<i→i<l.length→(za l (i - 1)).id<(za l i).id
theorem Rising.lt {l:List Sht} (h:Rising l):∀ {p q:Nat},p<q→q<l.length→(za l p).id<(za l q).id:=by
 intro p q hpq hq
 obtain ⟨d,rfl⟩:∃ d,q=p+1+d:=⟨q - (p+1),by omega⟩
 clear hpq
 induction d with
 | zero=>exact h (p+1) (by omega) hq
 | succ d ih =>
  have h1:=ih (by omega)
  have h2:=h (p+1+d+1) (by omega) hq
  rw [show p+1+d+1 - 1=p+1+d by omega] at h2
  exact Int.lt_trans h1 h2
theorem Rising.inj {l:List Sht} (h:Rising l) {p q:Nat} (hp:p<l.length) (hq:q<l.length) (e:(za l p).id=(za l q).id):p=q:=by
 rcases Nat.lt_trichotomy p q with g | g | g
 ·have:=h.lt g hq;omega
 ·exact g
 ·have:=h.lt g hp;omega
def zS (l:List Sht) (s:Int):Nat:=(l.filter fun o=>decide (o.id<s)).length
def z4D (l:List Sht) (s:Int):Bool:=l.any fun o=>o.id==s
theorem zga {l:List Sht} {s:Int} {i:Nat} (hi:i≤l.length) (h1:∀ q,q<i→(za l q).id<s) (h2:∀ q,i≤q→q<l.length→s≤(za l q).id):zS l s=i:=by
 unfold zS
 have e:l=l.take i++l.drop i:=(List.take_append_drop i l).symm
 conv=>lhs;rw [e]
 rw [List.filter_append,List.filter_eq_self.2,List.filter_eq_nil_iff.2,List.append_nil,List.length_take]
 ·omega
 ·intro o ho
  obtain ⟨q,hq,e⟩:=List.mem_iff_getElem.1 ho
  rw [List.length_drop] at hq
  rw [List.getElem_drop] at e
  have:=h2 (i+q) (by omega) (by omega)
  unfold za at this
  rw [z0a (by omega),e] at this
  rw [decide_eq_false (by omega)];decide
 ·intro o ho
  obtain ⟨q,hq,e⟩:=List.mem_iff_getElem.1 ho
  rw [List.length_take] at hq
  rw [List.getElem_take] at e
  have:=h1 q (by omega)
  unfold za at this
  rw [z0a (by omega),e] at this
  exact decide_eq_true this
set_option maxHeartbeats 4000000 in
theorem zeP {b:Bool} {l:List Sht} {s:Int} (hR:Rising l) (hn:l.length<1000000):VP (sE r) 138 [.p (z0W b l),iv s,.fn 139 [] []] (.tup [nv (zS l s),bv (z4D l s)]):=by
 have hmono:∀ p q,p≤q→q<l.length→(za l p).id≤(za l q).id:=fun p q hpq hq=>by
  by_cases e:p=q
  ·subst e;exact Int.le_refl _
  ·have h1:=hR.lt (show p<q by omega) hq;omega
 refine VP.of (fn:=Tryz.f138) z7 (zu rfl) (by kernel_rfl) rfl rfl rfl ?_
 refine VSt.go z7 false [] 200 rfl AllP.n ?_
 refine VSt.loop (α :=Nat×Nat) (fun x F L=>x.1≤x.2∧x.2≤l.length∧(∀ q,q<x.1→(za l q).id<s)∧(∀ q,x.2≤q→q<l.length→s≤(za l q).id)∧F=[(0,.p (z0W b l)),(1,iv s),(2,.fn 139 [] []),(8,nv l.length),(9,nv x.1),(10,nv x.2)]∧L=[]) (fun x=>x.2 - x.1) (0,l.length) (by (refine Vw.drop (by repeat (first | exact zo | refine zl rfl rfl rfl ?_ | refine z05 rfl ‹_› (zq _ ‹_›) ?_)))) ⟨Nat.zero_le _,Nat.le_refl _,fun q h=>absurd h (Nat.not_lt_zero q),fun q h1 h2=>absurd h2 (by omega),rfl,rfl⟩ ?_
 rintro ⟨i,j⟩ F L ⟨h1,h2,h3,h4,rfl,rfl⟩
 refine VSt.go z7 false [] 200 rfl AllP.n ?_
 refine VSt.cond rfl (fun g=>?_) (fun g=>?_)
 ·have g:i<j:=nlt g
  have h2:j≤l.length:=h2
  have hm:(i+j) / 2<l.length:=by omega
  refine VSt.go z7 false [21] 200 rfl (AllP.c (by unfold inR;(try simp only [Int.ofNat_eq_natCast]);omega) AllP.n) ?_
  refine zcQ rfl rfl (PureA.conv (ka:=.i64) (a:=Int.ofNat i+Int.ofNat j) (kc:=.u64) (c:=Int.ofNat (i+j)) rfl (zmb (by omega))) ?_
  refine zcQ rfl rfl (PureA.bin (ka:=.u64) (kb:=.u64) (a:=Int.ofNat (i+j)) (b:=1) (kc:=.u64) (c:=Int.ofNat ((i+j) / 2)) rfl rfl ziW) ?_
  refine zcQ rfl rfl (PureA.conv (ka:=.u64) (a:=Int.ofNat ((i+j) / 2)) (kc:=.i64) (c:=Int.ofNat ((i+j) / 2)) rfl (zmd (by omega))) ?_
  refine VSt.go z7 false [] 200 rfl (AllP.c ‹_› (AllP.c rfl AllP.n)) ?_
  refine VSt.pc rfl rfl rfl rfl rfl rfl rfl rfl ((zbi (za l ((i+j) / 2)) s)) ?_
  refine VSt.go z7 false [] 200 rfl AllP.n ?_
  refine VSt.cond rfl (fun g1=>?_) (fun g1=>?_)
  ·have g1:(za l ((i+j) / 2)).id<s:=of_decide_eq_true (cmp_lt.symm.trans g1)
   refine VSt.go z7 false [] 200 rfl (AllP.c (by unfold inR;(try simp only [Int.ofNat_eq_natCast]);omega) AllP.n) ?_
   exact ⟨((i+j) / 2+1,j),_,_,(by (refine Vw.drop (by repeat (first | exact zo | refine zl rfl rfl rfl ?_ | refine z05 rfl ‹_› (zq _ ‹_›) ?_)))),⟨by show (i+j) / 2+1≤j;omega,h2,fun q hq=>Int.lt_of_le_of_lt (hmono q ((i+j) / 2) (by have:q<(i+j) / 2+1:=hq;omega) hm) g1,h4,rfl,rfl⟩,by show j - ((i+j) / 2+1)<j - i;omega⟩
  ·have g1:¬ (za l ((i+j) / 2)).id<s:=of_decide_eq_false (cmp_lt.symm.trans g1)
   refine VSt.go z7 false [] 200 rfl AllP.n ?_
   exact ⟨(i,(i+j) / 2),_,_,(by (refine Vw.drop (by repeat (first | exact zo | refine zl rfl rfl rfl ?_ | refine z05 rfl ‹_› (zq _ ‹_›) ?_)))),⟨by show i≤(i+j) / 2;omega,by show (i+j) / 2≤l.length;omega,h3,fun q hq hq2=>Int.le_trans (by omega) (hmono ((i+j) / 2) q hq hq2),rfl,rfl⟩,by show (i+j) / 2 - i<j - i;omega⟩
 ·have g:i=j:=by
   have g:j≤i:=nge g
   have h1:i≤j:=h1
   omega
  subst g
  have hp:zS l s=i:=zga h2 h3 h4
  refine VSt.go z7 false [] 200 rfl AllP.n ?_
  refine zg 39 rfl (fun g2=>?_) (fun g2=>?_)
  ·have g2:i<l.length:=nlt g2
   refine VSt.go z7 false [] 200 rfl (AllP.c ‹_› (AllP.c rfl AllP.n)) ?_
   refine VSt.pc rfl rfl rfl rfl rfl rfl rfl rfl ((zbi (za l i) s)) ?_
   refine VSt.go z7 false [] 200 rfl AllP.n ?_
   refine EndsP.mk rfl rfl rfl ?_
   show AV.tup [nv i,bv (zhU (za l i).id s==0)]=_
   rw [cmp_eq,hp]
   congr 4
   rw [Bool.eq_iff_iff]
   unfold z4D
   rw [List.any_eq_true]
   refine ⟨fun h=>⟨za l i,z0e g2,h⟩,fun ⟨o,ho,h⟩=>?_⟩
   obtain ⟨q,hq,e⟩:=z0u (d:=default) ho
   have e:za l q=o:=e
   rw [←e,beq_iff_eq] at h
   rcases Nat.lt_trichotomy q i with hlt | rfl | hgt
   ·have:=h3 q hlt;omega
   ·exact beq_iff_eq.2 h
   ·have k1:=h4 i (Nat.le_refl _) g2
    have k2:=hmono i q (Nat.le_of_lt hgt) hq
    exact beq_iff_eq.2 (by omega)
  ·have g2:i=l.length:=by have:=nge g2;have:i≤l.length:=h2;omega
   refine VSt.go z7 false [] 200 rfl AllP.n ?_
   refine EndsP.mk rfl rfl rfl ?_
   show AV.tup [nv i,bv false]=_
   rw [hp]
   congr 4
   symm
   unfold z4D
   rw [List.any_eq_false]
   intro o ho
   obtain ⟨q,hq,e⟩:=z0u (d:=default) ho
   have e:za l q=o:=e
   have:=h3 q (by show q<i;omega)
   rw [e] at this
   rw [beq_false_of_ne (by omega)];decide
theorem find_ok {b b2:Bool} {l:List Sht} {w:List Sew} {s:Int} (hR:Rising l) (hn:l.length<1000000):VP (sE r) 97 [.agg [.p (z0W b l),.p (zcE b2 w)],iv s] (.tup [nv (zS l s),bv (z4D l s)]):=by
 refine VP.of (fn:=Tryz.f97) z7 (zu rfl) (by kernel_rfl) rfl rfl rfl ?_
 refine VSt.go z7 false [] 200 rfl AllP.n ?_
 refine VSt.pc rfl rfl rfl rfl rfl rfl rfl rfl ((zeP (b:=b) (s:=s) hR hn)) ?_
 refine VSt.go z7 false [] 200 rfl AllP.n ?_
 exact EndsP.mk rfl rfl rfl rfl
theorem zc0 {l:List Sht} (hR:Rising l) {i:Nat} (hi:i<l.length):zS l (za l i).id=i :=
 zga (Nat.le_of_lt hi) (fun q hq=>hR.lt hq hi) fun q hq hl=>by
  rcases Nat.lt_or_eq_of_le hq with h | h
  ·have:=hR.lt h hl;omega
  ·subst h;exact Int.le_refl _
theorem z3O {l:List Sht} {s:Int} (hR:Rising l) (h:z4D l s=true):zS l s<l.length∧(za l (zS l s)).id=s:=by
 unfold z4D at h
 obtain ⟨o,ho,e⟩:=List.any_eq_true.1 h
 obtain ⟨i,hi,rfl⟩:=z0u (d:=default) ho
 have e:(za l i).id=s:=beq_iff_eq.1 e
 have hp:zS l s=i:=by rw [←e];exact zc0 hR hi
 rw [hp];exact ⟨hi,e⟩
theorem zcy {l:List Sht} {i:Nat} (hi:i<l.length):z4D l (za l i).id=true:=List.any_eq_true.2 ⟨za l i,z0e hi,beq_self_eq_true _⟩
end Go.Proofs.YtdpipdniklognaaGreat
/- Walks: the program's check of a heap. -/
set_option maxRecDepth 100000
namespace Go.Proofs.YtdpipdniklognaaGreat
variable {r:Rm}
structure SzH (h:Hp):Prop where
 st:h.st.length<9223372036854775808
 sw:h.sw.length<9223372036854775808
 each:∀ k,k<h.st.length→SzS (za h.st k)
 stN:h.stB=true→h.st=[]
 swN:h.swB=true→h.sw=[]
def z6u (l:List Sht) (k:Nat) (p:Int):Nat:=((l.take k).filter fun s=>s.paper==p).length
def cnt (l:List Sht) (p:Int):Nat:=(l.filter fun s=>s.paper==p).length
def cF (l:List Sht):Nat→Int→Option Int
 | 0=>fun _=>none
 | k+1=>fun q=>bif q==(za l k).paper then some ((cF l k (za l k).paper).getD 0+1) else cF l k q
theorem zd4 {l:List Sht} {k:Nat} (h:k<l.length):l.take (k+1)=l.take k++[za l k]:=by
 unfold za;rw [List.take_add_one,z0a h,List.getElem?_eq_getElem h];rfl
theorem zhs (l:List Sht):∀ k,k≤l.length→∀ q,(cF l k q).getD 0=Int.ofNat (z6u l k q)
 | 0,_,q=>by unfold z6u;rw [List.take_zero];rfl
 | k+1,h,q=>by
  have ih:=zhs l k (by omega)
  have e:z6u l (k+1) q=z6u l k q+(bif (za l k).paper==q then 1 else 0):=by
   unfold z6u
   rw [zd4 (show k<l.length by omega),List.filter_append,List.length_append]
   cases hb:(za l k).paper==q with
   | true=>rw [show [za l k].filter (fun s=>s.paper==q)=[za l k] from List.filter_cons_of_pos (p:=fun s:Sht=>s.paper==q) hb];rfl
   | false=>rw [show [za l k].filter (fun s=>s.paper==q)=[] from List.filter_cons_of_neg (p:=fun s:Sht=>s.paper==q) (by rw [hb];decide)];rfl
  rw [e]
  show (bif q==(za l k).paper then some ((cF l k (za l k).paper).getD 0+1) else cF l k q).getD 0=_
  by_cases hq:q=(za l k).paper
  ·subst hq
   rw [beq_self_eq_true,ih];rfl
  ·rw [beq_false_of_ne hq,beq_false_of_ne (Ne.symm hq)]
   exact ih q
theorem zlA (l:List Sht) (k:Nat) (p:Int):z6u l k p≤k:=Nat.le_trans (List.length_filter_le _ _) (by rw [List.length_take];omega)
def SewOk (l:List Sht) (x:Sew):Prop:=∃ a b,a<l.length∧b<l.length∧(za l a).id=x.fro∧(za l b).id=x.too∧a≠b∧(za l a).paper=(za l b).paper
structure OkH (h:Hp):Prop where
 st:h.st.length≤24
 sw:h.sw.length≤12
 ok:∀ i,i<h.st.length→OkS (za h.st i)
 rise:Rising h.st
 few:∀ i,i<h.st.length→cnt h.st (za h.st i).paper≤7
 sewn:∀ i,i<h.sw.length→SewOk h.st (zy h.sw i)
 froms:∀ i,0<i→i<h.sw.length→(zy h.sw (i - 1)).fro<(zy h.sw i).fro
 toos:∀ i,i<h.sw.length→∀ k,k<i→(zy h.sw k).too≠(zy h.sw i).too
open Classical in
noncomputable def ckH (h:Hp):Int:=if OkH h then 0 else 51
theorem z0r {h:Hp} (n:¬ OkH h):ckH h=51:=if_neg n
theorem zdR {h:Hp} (n:OkH h):ckH h=0:=if_pos n
structure To1 (l:List Sht) (k:Nat):Prop where
 ok:∀ i,i<k→OkS (za l i)
 few:∀ i,i<k→z6u l (i+1) (za l i).paper≤7
 rise:∀ i,0<i→i<k→(za l (i - 1)).id<(za l i).id
theorem To1.zero (l:List Sht):To1 l 0:=⟨none0,none0,fun i _ hi=>absurd hi (Nat.not_lt_zero i)⟩
theorem To1.succ {l:List Sht} {k:Nat} (h:To1 l k) (h1:OkS (za l k)) (h2:z6u l (k+1) (za l k).paper≤7) (h3:0<k→(za l (k - 1)).id<(za l k).id):To1 l (k+1):=by
 refine ⟨z0d h.ok h1,z0d h.few h2,fun i h0 hi=>?_⟩
 by_cases e:i=k
 ·subst e;exact h3 h0
 ·exact h.rise i h0 (by omega)
theorem zhl (l:List Sht) (p:Int) {a b:Nat} (h:a≤b):z6u l a p≤z6u l b p:=by
 unfold z6u
 obtain ⟨d,rfl⟩:∃ d,b=a+d:=⟨b - a,by omega⟩
 rw [List.take_add,List.filter_append,List.length_append];omega
theorem zdO (l:List Sht) (p:Int):z6u l l.length p=cnt l p:=by unfold z6u cnt;rw [List.take_length]
theorem OkH.few1 {h:Hp} (n:OkH h) {k:Nat} (hk:k<h.st.length):z6u h.st (k+1) (za h.st k).paper≤7 :=
 Nat.le_trans (by rw [←zdO];exact zhl _ _ hk) (n.few k hk)
theorem zja {l:List Sht} (h:∀ i,i<l.length→z6u l (i+1) (za l i).paper≤7) (p:Int):cnt l p≤7:=by
 rw [←zdO]
 have:∀ k,k≤l.length→z6u l k p≤7:=by
  intro k
  induction k with
  | zero=>intro _;unfold z6u;rw [List.take_zero];exact Nat.zero_le _
  | succ k ih =>
   intro hk
   by_cases e:(za l k).paper=p
   ·rw [←e];exact h k hk
   ·have:z6u l (k+1) p=z6u l k p:=by
     unfold z6u
     rw [zd4 hk,List.filter_append,show [za l k].filter (fun s=>s.paper==p)=[] from List.filter_cons_of_neg (p:=fun s:Sht=>s.paper==p) (by rw [beq_false_of_ne e];decide),List.append_nil]
    rw [this];exact ih (by omega)
 exact this _ (Nat.le_refl _)
theorem zhn (o x:Sew):VP (sE r) 99 [.agg ((zf4 o).map .p),.p (.fp (zf4 x) 0)] (bv (o.too==x.too)):=by
 refine VP.of (fn:=Tryz.f99) z7 (zu rfl) (by kernel_rfl) rfl rfl rfl ?_
 refine VSt.go z7 false [] 200 rfl AllP.n ?_
 exact EndsP.mk rfl rfl rfl rfl
theorem zlf {b:Bool} {l:List Sew} {f:Nat} {first cap:List AV} {p:Sew→Bool} (hn:l.length<9223372036854775808) (hon:(AV.fn f first cap).only (olds [])=true) (hoc:∀ x,z07 (olds []) (first++([.agg ((zf4 x).map .p)]++cap))=true) (hf:∀ x,VP (sE r) f (first++([.agg ((zf4 x).map .p)]++cap)) (bv (p x))) :
  VP (sE r) 140 [.p (zcE b l),.fn f first cap] (iv (z6f l p)):=by
 refine VP.of (fn:=Tryz.f140) z7 (zu rfl) (by kernel_rfl) rfl rfl rfl ?_
 refine VSt.run z7 false [] 200 rfl trivial ?_
 refine z60 z7 l.length (by omega) (fun _=>[(0,.p (zcE b l)),(1,.fn f first cap)]) (fun _=>[]) (fun k=>∀ i,i<k→p (l.getD i default)=false) rfl rfl (fun _=>rfl) ?_ (fun i hi=>absurd hi (Nat.not_lt_zero i)) (fun k hk hp=>?_) (fun hp=>?_)
 ·(refine Vw.drop (by repeat (first | exact zo | refine zl rfl rfl rfl ?_ | refine z05 rfl ‹_› (zq _ ‹_›) ?_)))
 ·refine VSt.run z7 false [] 200 rfl (⟨hk,rfl⟩) ?_
  refine z5q (hf (l.getD k default)) rfl rfl rfl rfl rfl rfl (hoc _) ?_
  refine VSt.run z7 false [] 200 rfl trivial ?_
  refine VSt.cond rfl (fun hc=>?_) (fun hc=>?_)
  ·refine VSt.run z7 false [] 200 rfl trivial ?_
   refine EndsP.mk rfl rfl rfl ?_
   rw [z4e hk hc hp];rfl
  ·refine VSt.run z7 false [] 200 rfl trivial ?_
   refine ⟨by (refine Vw.drop (by repeat (first | exact zo | refine zl rfl rfl rfl ?_ | refine z05 rfl ‹_› (zq _ ‹_›) ?_))),fun i hi=>?_⟩
   by_cases e:i=k
   ·subst e;exact hc
   ·exact hp i (by omega)
 ·refine VSt.run z7 false [] 200 rfl trivial ?_
  refine EndsP.mk rfl rfl rfl ?_
  rw [z5c hp];rfl
theorem zdE {α : Type} (l:List α) (p : α → Bool):decide (0≤z6f l p)=l.any p:=by
 unfold z6f
 cases h:l.findIdx? p with
 | none =>
  rw [List.findIdx?_eq_none_iff] at h
  symm
  show l.any p=false
  rw [List.any_eq_false]
  exact fun x hx=>by simp [h x hx]
 | some k =>
  have:l.any p=true:=by
   rw [List.findIdx?_eq_some_iff_getElem] at h
   obtain ⟨hk,h,_⟩:=h
   exact List.any_eq_true.2 ⟨_,List.getElem_mem hk,h⟩
  rw [this];exact decide_eq_true (Int.natCast_nonneg k)
theorem zj9 {b:Bool} {l:List Sew} {f:Nat} {first cap:List AV} {p:Sew→Bool} (hn:l.length<9223372036854775808) (hon:(AV.fn f first cap).only (olds [])=true) (hoc:∀ x,z07 (olds []) (first++([.agg ((zf4 x).map .p)]++cap))=true) (hf:∀ x,VP (sE r) f (first++([.agg ((zf4 x).map .p)]++cap)) (bv (p x))) :
  VP (sE r) 98 [.p (zcE b l),.fn f first cap] (bv (l.any p)):=by
 refine VP.of (fn:=Tryz.f98) z7 (zu rfl) (by kernel_rfl) rfl rfl rfl ?_
 refine VSt.run z7 false [] 200 rfl trivial ?_
 refine z5q (zlf hn hon hoc hf) rfl rfl rfl rfl rfl rfl (by
  show (true&&((AV.fn f first cap).only (olds [])&&true))=true
  rw [hon];rfl) ?_
 refine VSt.run z7 false [] 200 rfl trivial ?_
 refine EndsP.mk rfl rfl rfl ?_
 show bv _=bv _
 congr 2
 exact zdE l p
structure To2 (h:Hp) (k:Nat):Prop where
 sewn:∀ i,i<k→SewOk h.st (zy h.sw i)
 froms:∀ i,0<i→i<k→(zy h.sw (i - 1)).fro<(zy h.sw i).fro
 toos:∀ i,i<k→∀ j,j<i→(zy h.sw j).too≠(zy h.sw i).too
theorem To2.zero (h:Hp):To2 h 0:=⟨none0,fun i _ hi=>absurd hi (Nat.not_lt_zero i),none0⟩
theorem To2.succ {h:Hp} {k:Nat} (n:To2 h k) (h1:SewOk h.st (zy h.sw k)) (h2:0<k→(zy h.sw (k - 1)).fro<(zy h.sw k).fro) (h3:∀ j,j<k→(zy h.sw j).too≠(zy h.sw k).too):To2 h (k+1):=by
 refine ⟨z0d n.sewn h1,fun i h0 hi=>?_,z0d n.toos h3⟩
 by_cases e:i=k
 ·subst e;exact h2 h0
 ·exact n.froms i h0 (by omega)
theorem SewOk.has {l:List Sht} {x:Sew} (h:SewOk l x):z4D l x.fro=true∧z4D l x.too=true:=by
 obtain ⟨a,b,ha,hb,e1,e2,_⟩:=h
 exact ⟨by rw [←e1];exact zcy ha,by rw [←e2];exact zcy hb⟩
theorem SewOk.pos {l:List Sht} (hR:Rising l) {x:Sew} (h:SewOk l x):zS l x.fro≠zS l x.too∧(za l (zS l x.fro)).paper=(za l (zS l x.too)).paper:=by
 obtain ⟨a,b,ha,hb,e1,e2,h1,h2⟩:=h
 rw [←e1,←e2,zc0 hR ha,zc0 hR hb]
 exact ⟨h1,h2⟩
theorem SewOk.of {l:List Sht} (hR:Rising l) {x:Sew} (h1:z4D l x.fro=true) (h2:z4D l x.too=true) (h3:zS l x.fro≠zS l x.too) (h4:(za l (zS l x.fro)).paper=(za l (zS l x.too)).paper):SewOk l x:=by
 obtain ⟨a1,a2⟩:=z3O hR h1
 obtain ⟨b1,b2⟩:=z3O hR h2
 exact ⟨_,_,a1,b1,a2,b2,h3,h4⟩
set_option maxHeartbeats 4000000 in
theorem z9V {h:Hp} (hz:SzH h):VP (sE r) 32 [.agg ((eHp h).map .p)] (iv (ckH h)):=by
 have hn:=hz.st
 have hm:=hz.sw
 refine VP.of (fn:=Tryz.f32) z7 (zu rfl) (by kernel_rfl) rfl rfl rfl ?_
 refine VSt.go z7 false [] 200 rfl AllP.n ?_
 refine z8 (zb 0 (eHp h) rfl rfl) ?_
 refine zg 16 rfl (fun a1=>?_) (fun a1=>?_)
 ·have a1:=of_decide_eq_true a1
  refine VSt.go z7 false [] 200 rfl AllP.n ?_
  refine EndsP.mk rfl rfl rfl ?_
  rw [z0r fun h=>by have:=h.st;simp only [Int.ofNat_eq_natCast] at a1;omega];rfl
 have hl:h.st.length≤24:=by have a1:=of_decide_eq_false a1;simp only [Int.ofNat_eq_natCast] at a1;omega
 refine VSt.go z7 false [] 200 rfl AllP.n ?_
 refine VSt.cond rfl (fun a2=>?_) (fun a2=>?_)
 ·have a2:=of_decide_eq_true a2
  refine VSt.go z7 false [] 200 rfl AllP.n ?_
  refine EndsP.mk rfl rfl rfl ?_
  rw [z0r fun h=>by have:=h.sw;simp only [Int.ofNat_eq_natCast] at a2;omega];rfl
 have hl2:h.sw.length≤12:=by have a2:=of_decide_eq_false a2;simp only [Int.ofNat_eq_natCast] at a2;omega
 refine VSt.go z7 false [] 200 rfl AllP.n ?_
 refine z0J z7 h.st.length (by omega) [1,24] (fun k=>[(3,.map 0)]) (fun k=>[(0,.mapI (cF h.st k))]) (fun k=>To1 h.st k) rfl rfl rfl (fun _=>rfl) rfl rfl (z0K rfl (AImp.refl _) z0l) (LImp.refl _) (To1.zero _) (fun k hk hp=>?_) (fun hp=>?_)
 ·have hzk:=hz.each k hk
  have e1:(cF h.st k (za h.st k).paper).getD 0=_:=zhs h.st k (by omega) _
  have hc1:=zlA h.st k (za h.st k).paper
  have hck:=zn0 (r:=r) hzk
  have hi:inR ((cF h.st k (za h.st k).paper).getD 0+1):=by rw [e1];unfold inR;simp only [Int.ofNat_eq_natCast];omega
  have e2:z6u h.st (k+1) (za h.st k).paper=z6u h.st k (za h.st k).paper+1:=by
   have:=zhs h.st (k+1) (by omega) (za h.st k).paper
   have e3:(cF h.st (k+1) (za h.st k).paper).getD 0=(cF h.st k (za h.st k).paper).getD 0+1:=by
    show (bif (za h.st k).paper==(za h.st k).paper then some ((cF h.st k (za h.st k).paper).getD 0+1) else _).getD 0=_
    rw [beq_self_eq_true];rfl
   rw [e3,e1] at this
   have:=Int.ofNat_inj.1 (show Int.ofNat (z6u h.st k (za h.st k).paper+1)=_ from this)
   exact this.symm
  have e4:(bif (za h.st k).paper==(za h.st k).paper then some ((cF h.st k (za h.st k).paper).getD 0+1) else cF h.st k (za h.st k).paper).getD 0=Int.ofNat (z6u h.st k (za h.st k).paper+1):=by
   rw [beq_self_eq_true]
   show (cF h.st k (za h.st k).paper).getD 0+1=_
   rw [e1];rfl
  rcases zk0 (za h.st k) with ⟨hO,e⟩ | ⟨hO,e⟩
  rotate_left
  ·rw [e] at hck
   refine VSt.go z7 false [] 200 rfl (AllP.c ‹_› (AllP.c rfl (AllP.c ‹_› AllP.n))) ?_
   refine z0b rfl rfl rfl rfl rfl rfl rfl rfl (hck) ?_
   refine VSt.go z7 false [] 200 rfl AllP.n ?_
   refine zd 39 rfl (fun q=>?_) (fun q=>?_)
   rotate_left
   ·exact absurd q (by decide)
   refine VSt.go z7 false [] 200 rfl AllP.n ?_
   refine EndsP.mk rfl rfl rfl ?_
   rw [z0r fun n=>hO (n.ok k hk)];rfl
  rw [e] at hck
  refine VSt.go z7 false [] 200 rfl (AllP.c ‹_› (AllP.c rfl (AllP.c ‹_› AllP.n))) ?_
  refine z0b rfl rfl rfl rfl rfl rfl rfl rfl (hck) ?_
  refine VSt.go z7 false [] 200 rfl AllP.n ?_
  refine zd 39 rfl (fun q=>?_) (fun q=>?_)
  ·exact absurd q (by decide)
  refine VSt.go z7 false [] 200 rfl AllP.n ?_
  refine zd 46 rfl (fun a3=>?_) (fun a3=>?_)
  ·have a3:=of_decide_eq_true a3
   refine VSt.go z7 false [] 200 rfl AllP.n ?_
   refine EndsP.mk rfl rfl rfl ?_
   rw [z0r fun n=>by
    have:=n.few1 hk
    rw [e4] at a3
    simp only [Int.ofNat_eq_natCast] at a3
    omega];rfl
  have hfew:z6u h.st (k+1) (za h.st k).paper≤7:=by
   have a3:=of_decide_eq_false a3
   rw [e4] at a3
   simp only [Int.ofNat_eq_natCast] at a3
   omega
  refine VSt.go z7 false [] 200 rfl AllP.n ?_
  refine zd 49 rfl (fun a4=>?_) (fun a4=>?_)
  ·have h0:=n0 a4
   refine VSt.go z7 false [54] 200 rfl (AllP.c (by unfold inR;(try simp only [Int.ofNat_eq_natCast]);omega) AllP.n) ?_
   refine zi 53 (nv (k - 1)) rfl (z9i h0) ?_
   refine VSt.go z7 false [] 200 rfl (AllP.c (by omega) (AllP.c rfl AllP.n)) ?_
   refine VSt.cond rfl (fun a5=>?_) (fun a5=>?_)
   ·have a5:(za h.st k).id≤(za h.st (k - 1)).id:=of_decide_eq_true a5
    refine VSt.go z7 false [] 200 rfl AllP.n ?_
    refine EndsP.mk rfl rfl rfl ?_
    rw [z0r fun n=>by have:=n.rise k h0 hk;omega];rfl
   ·have a5:¬ (za h.st k).id≤(za h.st (k - 1)).id:=of_decide_eq_false a5
    refine VSt.go z7 false [] 200 rfl AllP.n ?_
    exact ⟨by refine z14 (ps:=[(0,0)]) ⟨rfl,rfl,(by repeat (first | exact zo | refine zl rfl rfl rfl ?_)),_,rfl,((LImp.refl _))⟩,hp.succ hO hfew fun _=>by omega⟩
  ·have h0:=n0' a4
   refine VSt.go z7 false [] 200 rfl AllP.n ?_
   exact ⟨by refine z14 (ps:=[(0,0)]) ⟨rfl,rfl,(by repeat (first | exact zo | refine zl rfl rfl rfl ?_)),_,rfl,((LImp.refl _))⟩,hp.succ hO hfew fun h1=>by omega⟩
 ·have hR:Rising h.st:=hp.rise
  refine VSt.go z7 false [] 200 rfl AllP.n ?_
  refine z01 (Vw.kp [1,64,65,66] [] rfl) ?_
  refine z0J z7 h.sw.length (by omega) [1,64] (fun k=>[]) (fun k=>[]) (fun k=>To2 h k) rfl rfl rfl (fun _=>rfl) rfl rfl z0l trivial (To2.zero _) (fun k hk hq=>?_) (fun hq=>?_)
  ·have hA:=z3O (s:=(zy h.sw k).fro) hR
   have hB:=z3O (s:=(zy h.sw k).too) hR
   have htl:(h.sw.take k).length=k:=by rw [List.length_take];omega
   have hcont:=zj9 (r:=r) (b:=h.swB) (l:=h.sw.take k) (f:=99) (first:=[]) (cap:=[.p (.fp (zf4 (zy h.sw k)) 0)]) (p:=fun o=>o.too==(zy h.sw k).too) (by omega) rfl (fun _=>rfl) (fun x=>zhn x _)
   refine VSt.go z7 false [] 200 rfl (AllP.c ‹_› (AllP.c rfl AllP.n)) ?_
   refine z8 (zb 0 (zf4 (zy h.sw k)) rfl rfl) ?_
   refine VSt.pc rfl rfl rfl rfl rfl rfl rfl rfl ((find_ok (b:=h.stB) (b2:=h.swB) (l:=h.st) (w:=h.sw) (s:=(zy h.sw k).fro) hR (by omega))) ?_
   refine VSt.go z7 false [] 200 rfl AllP.n ?_
   refine VSt.pc rfl rfl rfl rfl rfl rfl rfl rfl ((find_ok (b:=h.stB) (b2:=h.swB) (l:=h.st) (w:=h.sw) (s:=(zy h.sw k).too) hR (by omega))) ?_
   refine VSt.go z7 false [] 200 rfl AllP.n ?_
   refine zd 87 rfl (fun b1=>?_) (fun b1=>?_)
   ·refine VSt.go z7 false [] 200 rfl AllP.n ?_
    refine EndsP.mk rfl rfl rfl ?_
    rw [z0r fun n=>by have:=(n.sewn k hk).has.1;rw [nt b1] at this;cases this];rfl
   have c1:=nf b1
   refine VSt.go z7 false [] 200 rfl AllP.n ?_
   refine zd 91 rfl (fun b2=>?_) (fun b2=>?_)
   ·refine VSt.go z7 false [] 200 rfl AllP.n ?_
    refine EndsP.mk rfl rfl rfl ?_
    rw [z0r fun n=>by have:=(n.sewn k hk).has.2;rw [nt b2] at this;cases this];rfl
   have c2:=nf b2
   have d1:=(hA c1).1
   have d2:=(hB c2).1
   refine VSt.go z7 false [] 200 rfl AllP.n ?_
   refine zd 96 rfl (fun b3=>?_) (fun b3=>?_)
   ·have b3:zS h.st (zy h.sw k).fro=zS h.st (zy h.sw k).too:=Int.ofNat_inj.1 (eq_of_beq b3)
    refine VSt.go z7 false [] 200 rfl AllP.n ?_
    refine EndsP.mk rfl rfl rfl ?_
    rw [z0r fun n=>((n.sewn k hk).pos hR).1 b3];rfl
   have c3:zS h.st (zy h.sw k).fro≠zS h.st (zy h.sw k).too:=fun e=>ne_of_beq_false b3 (by rw [e])
   refine VSt.go z7 false [] 200 rfl (AllP.c ‹_› (AllP.c rfl (AllP.c ‹_› (AllP.c rfl AllP.n)))) ?_
   refine zd 111 rfl (fun b4=>?_) (fun b4=>?_)
   ·have b4:((za h.st (zS h.st (zy h.sw k).fro)).paper==(za h.st (zS h.st (zy h.sw k).too)).paper)=false:=nt b4
    refine VSt.go z7 false [] 200 rfl AllP.n ?_
    refine EndsP.mk rfl rfl rfl ?_
    rw [z0r fun n=>ne_of_beq_false b4 ((n.sewn k hk).pos hR).2];rfl
   have c4:(za h.st (zS h.st (zy h.sw k).fro)).paper=(za h.st (zS h.st (zy h.sw k).too)).paper:=eq_of_beq (nf b4)
   have hS:=SewOk.of hR c1 c2 c3 c4
   refine VSt.go z7 false [] 200 rfl AllP.n ?_
   refine zd 114 rfl (fun b5=>?x1) (fun b5=>?x2)
   case' x1 =>
    have h0:=n0 b5
    refine VSt.go z7 false [119] 200 rfl (AllP.c (by unfold inR;(try simp only [Int.ofNat_eq_natCast]);omega) AllP.n) ?_
    refine zi 118 (nv (k - 1)) rfl (z9i h0) ?_
    refine VSt.go z7 false [] 200 rfl (AllP.c (by omega) (AllP.c rfl AllP.n)) ?_
    refine zd 127 rfl (fun b6=>?_) (fun b6=>?_)
    ·have b6:(zy h.sw k).fro≤(zy h.sw (k - 1)).fro:=of_decide_eq_true b6
     refine VSt.go z7 false [] 200 rfl AllP.n ?_
     refine EndsP.mk rfl rfl rfl ?_
     rw [z0r fun n=>by have:=n.froms k h0 hk;omega];rfl
    have hri:0<k→(zy h.sw (k - 1)).fro<(zy h.sw k).fro:=fun _=>by have b6:¬ (zy h.sw k).fro≤(zy h.sw (k - 1)).fro:=of_decide_eq_false b6;omega
   case' x2 =>
    have hri:0<k→(zy h.sw (k - 1)).fro<(zy h.sw k).fro:=fun h=>absurd (n0' b5) (by omega)
   all_goals
    refine VSt.go z7 false [132] 200 rfl (AllP.c (by omega) (AllP.c (by omega) (AllP.c (fun _ _=>rfl) AllP.n))) ?_
    refine zi 131 (.p (zcE h.swB (h.sw.take k))) rfl (by
     show AImp _ (.p (.lst _ h.swB (h.sw.take k).length _))
     rw [htl]
     exact AImp.lst fun j hj=>by
      show fW h.sw (0+j)=fW (h.sw.take k) j
      unfold fW zy
      rw [Nat.zero_add]
      simp only [List.getD_eq_getElem?_getD]
      rw [List.getElem?_take,if_pos (show j<k from hj)]) ?_
    refine VSt.go z7 false [] 200 rfl AllP.n ?_
    refine z0b rfl rfl rfl rfl rfl rfl rfl rfl (hcont) ?_
    refine VSt.go z7 false [] 200 rfl AllP.n ?_
    refine VSt.cond rfl (fun b7=>?_) (fun b7=>?_)
    ·have b7:(h.sw.take k).any (fun o=>o.too==(zy h.sw k).too)=true:=b7
     refine VSt.go z7 false [] 200 rfl AllP.n ?_
     refine EndsP.mk rfl rfl rfl ?_
     rw [z0r fun n=>by
      obtain ⟨o,ho,e⟩:=List.any_eq_true.1 b7
      obtain ⟨j,hj,rfl⟩:=z0u (d:=default) ho
      rw [htl] at hj
      have e:((h.sw.take k).getD j default).too=(zy h.sw k).too:=eq_of_beq e
      refine n.toos k hk j hj ?_
      rw [←e]
      unfold zy
      simp only [List.getD_eq_getElem?_getD]
      rw [List.getElem?_take,if_pos hj]];rfl
    ·have b7:(h.sw.take k).any (fun o=>o.too==(zy h.sw k).too)=false:=b7
     refine VSt.go z7 false [] 200 rfl AllP.n ?_
     refine ⟨by (refine Vw.drop (by repeat (first | exact zo | refine zl rfl rfl rfl ?_ | refine z05 rfl ‹_› (zq _ ‹_›) ?_))),hq.succ hS hri fun j hj e=>?_⟩
     rw [List.any_eq_false] at b7
     refine b7 ((h.sw.take k).getD j default) (z0e (by omega)) ?_
     rw [beq_iff_eq,←e]
     unfold zy
     simp only [List.getD_eq_getElem?_getD]
     rw [List.getElem?_take,if_pos hj]
  ·refine VSt.go z7 false [] 200 rfl AllP.n ?_
   refine EndsP.mk rfl rfl rfl ?_
   rw [zdR ⟨hl,hl2,hp.ok,hR,fun i _=>zja hp.few _,hq.sewn,hq.froms,hq.toos⟩];rfl
end Go.Proofs.YtdpipdniklognaaGreat
/- Walks: the reference's check of a heap. -/
set_option maxRecDepth 100000
namespace Go.Proofs.YtdpipdniklognaaGreat
variable {r:Rm}
def fL (l:List Int):Nat→List PV:=fun q=>[.int .i64 (l.getD q 0)]
theorem z3V (l:List Int) (y:Int) (q:Nat) (hq:q<l.length+1):(bif Nat.blt q l.length then fL l q else ([PV.int .i64 y].drop ((q - l.length)*1)).take 1)=fL (l++[y]) q:=by
 unfold fL
 by_cases e:q<l.length
 ·rw [zhw e]
  simp only [cond_true,List.getD_eq_getElem?_getD]
  rw [List.getElem?_append_left e]
 ·have:q=l.length:=by omega
  subst this
  rw [zhx e,Nat.sub_self]
  simp
def zeo {α β : Type} (l:List α) (p : α → Bool) (f : α → β) (k:Nat):List β :=((l.take k).filter p).map f
theorem zmu {α β : Type} [Inhabited α] {l:List α} {p : α → Bool} {f : α → β} {k:Nat} (h:k<l.length) (hp:p (l.getD k default)=true):zeo l p f (k+1)=zeo l p f k++[f (l.getD k default)]:=by
 unfold zeo
 rw [z29 l h,List.filter_append,List.map_append,show [l.getD k default].filter p=[l.getD k default] from List.filter_cons_of_pos hp];rfl
theorem zmv {α β : Type} [Inhabited α] {l:List α} {p : α → Bool} {f : α → β} {k:Nat} (h:k<l.length) (hp:p (l.getD k default)=false):zeo l p f (k+1)=zeo l p f k:=by
 unfold zeo
 rw [z29 l h,List.filter_append,List.map_append,show [l.getD k default].filter p=[] from List.filter_cons_of_neg (by rw [hp];decide)];simp
theorem zin {α β : Type} {l:List α} {p : α → Bool} {f : α → β}:zeo l p f l.length=(l.filter p).map f:=by
 unfold zeo;rw [List.take_length]
theorem zim {α β : Type} {l:List α} {p : α → Bool} {f : α → β} {k:Nat}:(zeo l p f k).length≤l.length:=by
 unfold zeo
 rw [List.length_map]
 exact Nat.le_trans (List.length_filter_le _ _) (List.length_take_le' ..)
def eL (l:List Int):PV:=z3E l.isEmpty l
theorem z8S {l:List Int} {n:Nat} (hn:n=l.length):(AV.p (.lst 3 (true&&Nat.beq n 0) n (fL l))) = .p (eL l):=by
 subst hn
 cases l <;> rfl
theorem z8p {h:Hp} {id:Int} (hn:h.st.length<9223372036854775808):VP (sE r) 70 [.agg ((eHp h).map .p),iv id] (iv (z6f h.st fun s=>s.id==id)):=by
 refine VP.of (fn:=Tryz.f70) z7 (zu rfl) (by kernel_rfl) rfl rfl rfl ?_
 refine VSt.go z7 false [] 200 rfl AllP.n ?_
 refine z01 (zb 0 (eHp h) rfl rfl) ?_
 refine z09 (ti:=5) h.st.length [1,2] (fun _=>[]) (fun _=>[]) (fun k=>∀ i,i<k→((za h.st i).id==id)=false) rfl rfl z0l trivial none0 (fun k hk hp=>?_)
 refine VSt.go z7 false [] 200 rfl AllP.n ?_
 refine VSt.cond rfl (fun g=>?_) (fun g=>?_)
 ·have g:=nlt g
  refine VSt.go z7 false [] 200 rfl (AllP.c ‹_› (AllP.c rfl AllP.n)) ?_
  refine VSt.cond rfl (fun h1=>?_) (fun h1=>?_)
  ·have h1:((za h.st k).id==id)=true:=h1
   refine VSt.go z7 false [] 200 rfl AllP.n ?_
   refine EndsP.mk rfl rfl rfl ?_
   rw [z4e (p:=fun s:Sht=>s.id==id) g h1 hp];rfl
  ·have h1:((za h.st k).id==id)=false:=h1
   refine VSt.go z7 false [] 200 rfl (AllP.c (by unfold inR;(try simp only [Int.ofNat_eq_natCast]);omega) AllP.n) ?_
   exact ⟨g,by (refine Vw.drop (by repeat (first | exact zo | refine zl rfl rfl rfl ?_ | refine z05 rfl ‹_› (zq _ ‹_›) ?_))),z0d hp h1⟩
 ·have g:k=h.st.length:=by have:=nge g;omega
  subst g
  refine VSt.go z7 false [] 200 rfl AllP.n ?_
  refine EndsP.mk rfl rfl rfl ?_
  rw [z5c (p:=fun s:Sht=>s.id==id) hp];rfl
def z6Q (l:List Sht) (p:Int):List Int:=(l.filter fun s=>s.paper==p).map (·.id)
theorem z8o {h:Hp} {p:Int} (hn:h.st.length<1000000):VP (sE r) 66 [.agg ((eHp h).map .p),iv p] (.p (eL (z6Q h.st p))):=by
 refine VP.of (fn:=Tryz.f66) z7 (zu rfl) (by kernel_rfl) rfl rfl rfl ?_
 refine VSt.go z7 false [] 200 rfl AllP.n ?_
 refine z01 (zb 0 (eHp h) rfl rfl) ?_
 refine z01 (z1y 0 1 (fL []) 3 rfl) ?_
 refine z09 (ti:=6) h.st.length [1,2] (fun k=>[(5,.acc true 0 1 (zeo h.st (fun s=>s.paper==p) (·.id) k).length)]) (fun k=>[(0,.acc (zeo h.st (fun s=>s.paper==p) (·.id) k).length 1 (fL (zeo h.st (fun s=>s.paper==p) (·.id) k)) 3)]) (fun _=>True) rfl rfl (z0K rfl z0o z0l) (LImp.refl _) trivial (fun k hk _=>?_)
 have hlen:=zim (l:=h.st) (p:=fun s=>s.paper==p) (f:=(·.id)) (k:=k)
 refine VSt.go z7 false [] 200 rfl AllP.n ?_
 refine VSt.cond rfl (fun g=>?_) (fun g=>?_)
 ·have g:=nlt g
  refine VSt.go z7 false [] 200 rfl (AllP.c ‹_› (AllP.c rfl AllP.n)) ?_
  refine VSt.cond rfl (fun h1=>?_) (fun h1=>?_)
  ·have h1:((za h.st k).paper==p)=true:=h1
   have e:=zmu (p:=fun s:Sht=>s.paper==p) (f:=(·.id)) g h1
   have hN:=congrArg List.length e
   rw [List.length_append,List.length_singleton] at hN
   refine VSt.go z7 false [] 200 rfl (AllP.c ‹_› (AllP.c rfl (AllP.c (by omega) (AllP.c (by omega) (AllP.c (fun q hq=>match q,hq with | 0,_=>rfl) (AllP.c rfl (AllP.c rfl (AllP.c rfl (AllP.c (by unfold inR;(try simp only [Int.ofNat_eq_natCast]);omega) AllP.n))))))))) ?_
   refine ⟨g,?_,trivial⟩
   exact z14 (ps:=[(0,1)]) ⟨rfl,rfl,(by repeat (first | exact zo | refine zl rfl rfl rfl ?_ | refine z0z rfl rfl z16 ?_ | refine z0z rfl rfl (AImp.acc hN.symm (fun _=>rfl)) ?_)),_,rfl,⟨rfl,BImp.acc hN.symm (fun q hq=>by rw [e];exact z3V _ _ q hq),trivial⟩⟩
  ·have h1:((za h.st k).paper==p)=false:=h1
   have e:=zmv (p:=fun s:Sht=>s.paper==p) (f:=(·.id)) g h1
   refine VSt.go z7 false [] 200 rfl (AllP.c (by unfold inR;(try simp only [Int.ofNat_eq_natCast]);omega) AllP.n) ?_
   refine ⟨g,?_,trivial⟩
   dsimp only
   rw [e]
   refine z14 (ps:=[(0,0)]) ⟨rfl,rfl,(by repeat (first | exact zo | refine zl rfl rfl rfl ?_)),_,rfl,((LImp.refl _))⟩
 ·have g:k=h.st.length:=by have:=nge g;omega
  subst g
  rw [zin]
  refine VSt.go z7 false [31] 200 rfl AllP.n ?_
  refine z8 (Vw.kp [5] [(0,0)] rfl) ?_
  refine z8 (z0t 0 rfl rfl ⟨Nat.le_refl _,rfl⟩) ?_
  refine VSt.go z7 false [] 200 rfl AllP.n ?_
  refine EndsP.mk rfl rfl rfl ?_
  exact z8S rfl
theorem zcK (l:List Sht) (p:Int):(z6Q l p).length=cnt l p:=by unfold z6Q cnt;rw [List.length_map]
structure To3 (l:List Sht) (k:Nat):Prop where
 ok:∀ i,i<k→OkS (za l i)
 few:∀ i,i<k→cnt l (za l i).paper≤7
 rise:∀ i,0<i→i<k→(za l (i - 1)).id<(za l i).id
theorem To3.zero (l:List Sht):To3 l 0:=⟨none0,none0,fun i _ hi=>absurd hi (Nat.not_lt_zero i)⟩
theorem To3.succ {l:List Sht} {k:Nat} (h:To3 l k) (h1:OkS (za l k)) (h2:cnt l (za l k).paper≤7) (h3:0<k→(za l (k - 1)).id<(za l k).id):To3 l (k+1):=by
 refine ⟨z0d h.ok h1,z0d h.few h2,fun i h0 hi=>?_⟩
 by_cases e:i=k
 ·subst e;exact h3 h0
 ·exact h.rise i h0 (by omega)
theorem zcw {l:List Sht} {s:Int}:decide (z6f l (fun x=>x.id==s)<0) = !z4D l s:=by
 have h:=zdE l (fun x=>x.id==s)
 unfold z4D
 rw [←h]
 by_cases c:0≤z6f l (fun x=>x.id==s)
 ·rw [decide_eq_true c,decide_eq_false (by omega)];rfl
 ·rw [decide_eq_false c,decide_eq_true (by omega)];rfl
theorem z9F {l:List Sht} (hR:Rising l) {s:Int} (h:z4D l s=true):z6f l (fun x=>x.id==s)=Int.ofNat (zS l s):=by
 obtain ⟨h1,h2⟩:=z3O hR h
 refine z4e h1 (beq_iff_eq.2 h2) fun i hi=>beq_false_of_ne fun e=>?_
 have h3:=hR.lt hi h1
 have e:(za l i).id=s:=e
 omega
set_option maxHeartbeats 4000000 in
theorem zaw {h:Hp} (hz:SzH h):VP (sE r) 61 [.agg ((eHp h).map .p)] (iv (ckH h)):=by
 have hn:=hz.st
 have hm:=hz.sw
 refine VP.of (fn:=Tryz.f61) z7 (zu rfl) (by kernel_rfl) rfl rfl rfl ?_
 refine VSt.go z7 false [] 200 rfl AllP.n ?_
 refine z8 (zb 0 (eHp h) rfl rfl) ?_
 refine zg 14 rfl (fun a1=>?_) (fun a1=>?_)
 ·have a1:=of_decide_eq_true a1
  refine VSt.go z7 false [] 200 rfl AllP.n ?_
  refine EndsP.mk rfl rfl rfl ?_
  rw [z0r fun h=>by have:=h.st;simp only [Int.ofNat_eq_natCast] at a1;omega];rfl
 have hl:h.st.length≤24:=by have a1:=of_decide_eq_false a1;simp only [Int.ofNat_eq_natCast] at a1;omega
 refine VSt.go z7 false [] 200 rfl AllP.n ?_
 refine VSt.cond rfl (fun a2=>?_) (fun a2=>?_)
 ·have a2:=of_decide_eq_true a2
  refine VSt.go z7 false [] 200 rfl AllP.n ?_
  refine EndsP.mk rfl rfl rfl ?_
  rw [z0r fun h=>by have:=h.sw;simp only [Int.ofNat_eq_natCast] at a2;omega];rfl
 have hl2:h.sw.length≤12:=by have a2:=of_decide_eq_false a2;simp only [Int.ofNat_eq_natCast] at a2;omega
 refine VSt.go z7 false [] 200 rfl AllP.n ?_
 refine z09 (ti:=3) h.st.length [1] (fun _=>[]) (fun _=>[]) (fun k=>To3 h.st k) rfl rfl z0l trivial (To3.zero _) (fun k hk hp=>?_)
 refine VSt.go z7 false [] 200 rfl AllP.n ?_
 refine VSt.cond rfl (fun g=>?_) (fun g=>?_)
 ·have g:=nlt g
  have hck:=zkK (r:=r) (za h.st k)
  have hbu:=z8o (r:=r) (h:=h) (p:=(za h.st k).paper) (by omega)
  have hbl:=zcK h.st (za h.st k).paper
  rcases zk0 (za h.st k) with ⟨hO,e⟩ | ⟨hO,e⟩
  rotate_left
  ·rw [e] at hck
   refine VSt.go z7 false [] 200 rfl (AllP.c ‹_› (AllP.c rfl AllP.n)) ?_
   refine z0b rfl rfl rfl rfl rfl rfl rfl rfl (hck) ?_
   refine VSt.go z7 false [] 200 rfl AllP.n ?_
   refine zd 35 rfl (fun q=>?_) (fun q=>?_)
   rotate_left
   ·exact absurd q (by decide)
   refine VSt.go z7 false [] 200 rfl AllP.n ?_
   refine EndsP.mk rfl rfl rfl ?_
   rw [z0r fun n=>hO (n.ok k g)];rfl
  rw [e] at hck
  refine VSt.go z7 false [] 200 rfl (AllP.c ‹_› (AllP.c rfl AllP.n)) ?_
  refine z0b rfl rfl rfl rfl rfl rfl rfl rfl (hck) ?_
  refine VSt.go z7 false [] 200 rfl AllP.n ?_
  refine zd 35 rfl (fun q=>?_) (fun q=>?_)
  ·exact absurd q (by decide)
  refine VSt.go z7 false [] 200 rfl AllP.n ?_
  refine zd 38 rfl (fun a4=>?x1) (fun a4=>?x2)
  case' x1 =>
   have h0:=n0 a4
   refine VSt.go z7 false [43] 200 rfl (AllP.c (by unfold inR;(try simp only [Int.ofNat_eq_natCast]);omega) AllP.n) ?_
   refine zi 42 (nv (k - 1)) rfl (z9i h0) ?_
   refine VSt.go z7 false [] 200 rfl (AllP.c (by omega) (AllP.c rfl AllP.n)) ?_
   refine zd 51 rfl (fun a5=>?_) (fun a5=>?_)
   ·have a5:(za h.st k).id≤(za h.st (k - 1)).id:=of_decide_eq_true a5
    refine VSt.go z7 false [] 200 rfl AllP.n ?_
    refine EndsP.mk rfl rfl rfl ?_
    rw [z0r fun n=>by have:=n.rise k h0 g;omega];rfl
   have hri:0<k→(za h.st (k - 1)).id<(za h.st k).id:=fun _=>by have a5:¬ (za h.st k).id≤(za h.st (k - 1)).id:=of_decide_eq_false a5;omega
  case' x2 =>
   have hri:0<k→(za h.st (k - 1)).id<(za h.st k).id:=fun h=>absurd (n0' a4) (by omega)
  all_goals
   refine VSt.go z7 false [] 200 rfl AllP.n ?_
   refine z0b rfl rfl rfl rfl rfl rfl rfl rfl (hbu) ?_
   refine VSt.go z7 false [] 200 rfl AllP.n ?_
   refine VSt.cond rfl (fun a6=>?_) (fun a6=>?_)
   ·have a6:(7:Int)<Int.ofNat (z6Q h.st (za h.st k).paper).length:=of_decide_eq_true a6
    refine VSt.go z7 false [] 200 rfl AllP.n ?_
    refine EndsP.mk rfl rfl rfl ?_
    rw [z0r fun n=>by
     have:=n.few k g
     rw [hbl] at a6
     simp only [Int.ofNat_eq_natCast] at a6
     omega];rfl
   ·have a6:¬ (7:Int)<Int.ofNat (z6Q h.st (za h.st k).paper).length:=of_decide_eq_false a6
    rw [hbl] at a6
    refine VSt.go z7 false [] 200 rfl (AllP.c (by unfold inR;(try simp only [Int.ofNat_eq_natCast]);omega) AllP.n) ?_
    exact ⟨g,by (refine Vw.drop (by repeat (first | exact zo | refine zl rfl rfl rfl ?_ | refine z05 rfl ‹_› (zq _ ‹_›) ?_))),hp.succ hO (by simp only [Int.ofNat_eq_natCast] at a6;omega) hri⟩
 have g:k=h.st.length:=by have:=nge g;omega
 subst g
 have hR:Rising h.st:=hp.rise
 refine VSt.go z7 false [] 200 rfl AllP.n ?_
 refine z09 (ti:=5) h.sw.length [1] (fun _=>[]) (fun _=>[]) (fun k=>To2 h k) rfl rfl z0l trivial (To2.zero _) (fun k hk hq=>?_)
 refine VSt.go z7 false [] 200 rfl AllP.n ?_
 refine VSt.cond rfl (fun g=>?_) (fun g=>?_)
 ·have g:=nlt g
  have hA:=z3O (s:=(zy h.sw k).fro) hR
  have hB:=z3O (s:=(zy h.sw k).too) hR
  have i1:=z8p (r:=r) (h:=h) (id:=(zy h.sw k).fro) (by omega)
  have i2:=z8p (r:=r) (h:=h) (id:=(zy h.sw k).too) (by omega)
  by_cases c1:z4D h.st (zy h.sw k).fro=true
  rotate_left
  ·have d1:=zcw (l:=h.st) (s:=(zy h.sw k).fro)
   rw [Bool.not_eq_true] at c1
   rw [c1] at d1
   refine VSt.go z7 false [] 200 rfl (AllP.c ‹_› (AllP.c rfl AllP.n)) ?_
   refine VSt.pc rfl rfl rfl rfl rfl rfl rfl rfl (i1) ?_
   refine VSt.go z7 false [] 200 rfl AllP.n ?_
   refine VSt.pc rfl rfl rfl rfl rfl rfl rfl rfl (i2) ?_
   refine VSt.go z7 false [] 200 rfl AllP.n ?_
   refine zd 81 rfl (fun b1=>?_) (fun b1=>?_)
   rotate_left
   ·exact absurd (d1.symm.trans b1) (by decide)
   refine VSt.go z7 false [] 200 rfl AllP.n ?_
   refine EndsP.mk rfl rfl rfl ?_
   rw [z0r fun n=>by have:=(n.sewn k g).has.1;rw [c1] at this;cases this];rfl
  rw [z9F hR c1] at i1
  by_cases c2:z4D h.st (zy h.sw k).too=true
  rotate_left
  ·have d1:=zcw (l:=h.st) (s:=(zy h.sw k).too)
   rw [Bool.not_eq_true] at c2
   rw [c2] at d1
   refine VSt.go z7 false [] 200 rfl (AllP.c ‹_› (AllP.c rfl AllP.n)) ?_
   refine VSt.pc rfl rfl rfl rfl rfl rfl rfl rfl (i1) ?_
   refine VSt.go z7 false [] 200 rfl AllP.n ?_
   refine VSt.pc rfl rfl rfl rfl rfl rfl rfl rfl (i2) ?_
   refine VSt.go z7 false [] 200 rfl AllP.n ?_
   refine zd 81 rfl (fun b1=>?_) (fun b1=>?_)
   ·have b1:=of_decide_eq_true b1
    simp only [Int.ofNat_eq_natCast] at b1
    omega
   refine VSt.go z7 false [] 200 rfl AllP.n ?_
   refine zd 85 rfl (fun b2=>?_) (fun b2=>?_)
   rotate_left
   ·exact absurd (d1.symm.trans b2) (by decide)
   refine VSt.go z7 false [] 200 rfl AllP.n ?_
   refine EndsP.mk rfl rfl rfl ?_
   rw [z0r fun n=>by have:=(n.sewn k g).has.2;rw [c2] at this;cases this];rfl
  rw [z9F hR c2] at i2
  have d1:=(hA c1).1
  have d2:=(hB c2).1
  refine VSt.go z7 false [] 200 rfl (AllP.c ‹_› (AllP.c rfl AllP.n)) ?_
  refine z8 (zb 0 (zf4 (zy h.sw k)) rfl rfl) ?_
  refine VSt.pc rfl rfl rfl rfl rfl rfl rfl rfl (i1) ?_
  refine VSt.go z7 false [] 200 rfl AllP.n ?_
  refine VSt.pc rfl rfl rfl rfl rfl rfl rfl rfl (i2) ?_
  refine VSt.go z7 false [] 200 rfl AllP.n ?_
  refine zd 81 rfl (fun b1=>?_) (fun b1=>?_)
  ·have b1:=of_decide_eq_true b1
   simp only [Int.ofNat_eq_natCast] at b1
   omega
  refine VSt.go z7 false [] 200 rfl AllP.n ?_
  refine zd 85 rfl (fun b2=>?_) (fun b2=>?_)
  ·have b2:=of_decide_eq_true b2
   simp only [Int.ofNat_eq_natCast] at b2
   omega
  refine VSt.go z7 false [] 200 rfl AllP.n ?_
  refine zd 90 rfl (fun b3=>?_) (fun b3=>?_)
  ·have b3:zS h.st (zy h.sw k).fro=zS h.st (zy h.sw k).too:=Int.ofNat_inj.1 (eq_of_beq b3)
   refine VSt.go z7 false [] 200 rfl AllP.n ?_
   refine EndsP.mk rfl rfl rfl ?_
   rw [z0r fun n=>((n.sewn k g).pos hR).1 b3];rfl
  have c3:zS h.st (zy h.sw k).fro≠zS h.st (zy h.sw k).too:=fun e=>ne_of_beq_false b3 (by rw [e])
  refine VSt.go z7 false [] 200 rfl (AllP.c ‹_› (AllP.c rfl (AllP.c ‹_› (AllP.c rfl AllP.n)))) ?_
  refine zd 105 rfl (fun b4=>?_) (fun b4=>?_)
  ·have b4:((za h.st (zS h.st (zy h.sw k).fro)).paper==(za h.st (zS h.st (zy h.sw k).too)).paper)=false:=nt b4
   refine VSt.go z7 false [] 200 rfl AllP.n ?_
   refine EndsP.mk rfl rfl rfl ?_
   rw [z0r fun n=>ne_of_beq_false b4 ((n.sewn k g).pos hR).2];rfl
  have c4:(za h.st (zS h.st (zy h.sw k).fro)).paper=(za h.st (zS h.st (zy h.sw k).too)).paper:=eq_of_beq (nf b4)
  have hS:=SewOk.of hR c1 c2 c3 c4
  refine VSt.go z7 false [] 200 rfl AllP.n ?_
  refine zd 108 rfl (fun b5=>?y1) (fun b5=>?y2)
  case' y1 =>
   have h0:=n0 b5
   refine VSt.go z7 false [113] 200 rfl (AllP.c (by unfold inR;(try simp only [Int.ofNat_eq_natCast]);omega) AllP.n) ?_
   refine zi 112 (nv (k - 1)) rfl (z9i h0) ?_
   refine VSt.go z7 false [] 200 rfl (AllP.c (by omega) (AllP.c rfl AllP.n)) ?_
   refine VSt.cond rfl (fun b6=>?_) (fun b6=>?_)
   ·have b6:(zy h.sw k).fro≤(zy h.sw (k - 1)).fro:=of_decide_eq_true b6
    refine VSt.go z7 false [] 200 rfl AllP.n ?_
    refine EndsP.mk rfl rfl rfl ?_
    rw [z0r fun n=>by have:=n.froms k h0 g;omega];rfl
   have hri:0<k→(zy h.sw (k - 1)).fro<(zy h.sw k).fro:=fun _=>by have b6:¬ (zy h.sw k).fro≤(zy h.sw (k - 1)).fro:=of_decide_eq_false b6;omega
  case' y2 =>
   have hri:0<k→(zy h.sw (k - 1)).fro<(zy h.sw k).fro:=fun h=>absurd (n0' b5) (by omega)
  all_goals
   refine VSt.go z7 false [] 200 rfl AllP.n ?_
   refine z09 (ti:=9) k [1,5,6] (fun _=>[]) (fun _=>[]) (fun j=>∀ i,i<j→(zy h.sw i).too≠(zy h.sw k).too) rfl rfl z0l trivial none0 (fun j hj hs=>?_)
   refine VSt.go z7 false [] 200 rfl AllP.n ?_
   refine VSt.cond rfl (fun g2=>?_) (fun g2=>?_)
   ·have g2:=nlt g2
    have hjl:j<h.sw.length:=by omega
    refine VSt.go z7 false [] 200 rfl (AllP.c ‹_› (AllP.c rfl AllP.n)) ?_
    refine VSt.cond rfl (fun b7=>?_) (fun b7=>?_)
    ·have b7:((zy h.sw j).too==(zy h.sw k).too)=true:=b7
     refine VSt.go z7 false [] 200 rfl AllP.n ?_
     refine EndsP.mk rfl rfl rfl ?_
     rw [z0r fun n=>n.toos k g j g2 (eq_of_beq b7)];rfl
    ·have b7:((zy h.sw j).too==(zy h.sw k).too)=false:=b7
     refine VSt.go z7 false [] 200 rfl (AllP.c (by unfold inR;(try simp only [Int.ofNat_eq_natCast]);omega) AllP.n) ?_
     exact ⟨g2,by (refine Vw.drop (by repeat (first | exact zo | refine zl rfl rfl rfl ?_ | refine z05 rfl ‹_› (zq _ ‹_›) ?_))),z0d hs (ne_of_beq_false b7)⟩
   ·have g2:j=k:=by have:=nge g2;omega
    subst g2
    refine VSt.go z7 false [] 200 rfl (AllP.c (by unfold inR;(try simp only [Int.ofNat_eq_natCast]);omega) AllP.n) ?_
    exact ⟨g,by (refine Vw.drop (by repeat (first | exact zo | refine zl rfl rfl rfl ?_ | refine z05 rfl ‹_› (zq _ ‹_›) ?_))),hq.succ hS hri hs⟩
 have g:k=h.sw.length:=by have:=nge g;omega
 subst g
 refine VSt.go z7 false [] 200 rfl AllP.n ?_
 refine EndsP.mk rfl rfl rfl ?_
 rw [zdR ⟨hl,hl2,hp.ok,hR,hp.few,hq.sewn,hq.froms,hq.toos⟩];rfl
end Go.Proofs.YtdpipdniklognaaGreat
/- Walks: sheets and threads copied, and taken away. -/
set_option maxRecDepth 100000
namespace Go.Proofs.YtdpipdniklognaaGreat
variable {r:Rm}
theorem Vw.empAcc {E:Env} {d i sz sz' sz2:Nat} {f g:Nat→List PV} {t t':TypeId}:Vw E [] [(d,.sl i sz 0 0 0 2)] [(i,.arr 0 sz' f t)] [(d,.acc false i sz 0)] [(i,.acc 0 sz2 g t')]:=by
 intro T S Z j hS hF
 obtain ⟨b,hj,vs,gg,h1,h2,h3,h4⟩:=hS.blk i (.arr 0 sz' f t) (by simp [bk]) id
 have hr:=hS.unrom hj
 refine ⟨ZB Z b,fun _=>none,⟨fun c hc=>?_,fun k c hk=>(by cases hk),fun k k' c hk=>(by cases hk),fun k hk=>rfl,fun k vb hk=>?_,fun c q hc=>⟨(hS.rom c q hc).1,fun k hk=>(by cases hk)⟩⟩,fun x a ha=>?_,⟨Nat.le_refl _,fun _ _ _=>rfl,fun c hc=>.inl hc,fun c hc=>?_,fun k c hk=>(by cases hk),Nat.le_refl _,fun _ h _ _=>h⟩,fun k hk=>(by cases hk)⟩
 ·rcases hc with hc | rfl
  ·exact hS.zlt c hc
  ·exact (hS.jlt i _ hj).1
 ·simp only [bk] at hk
  cases hb:Nat.beq i k with
  | true=>rw [hb] at hk;cases hk;exact .inl rfl
  | false=>rw [hb] at hk;cases hk
 ·simp only [ak] at ha
  cases hb:Nat.beq d x with
  | true =>
   rw [hb] at ha
   cases ha
   obtain ⟨v,h5,h6⟩:=hF x (.sl i sz 0 0 0 2) (by simp only [ak];rw [hb];rfl)
   refine ⟨v,h5,?_⟩
   cases h6 with
   | sl h =>
    rw [hj] at h;cases h
    exact .accE (.inr rfl) ((z2y hr).trans h1) (by simp)
  | false=>rw [hb] at ha;cases ha
 ·rcases hc with hc | rfl
  ·exact .inl hc
  ·exact .inr (.inr ⟨i,hj⟩)
theorem zjv {i sz m m' c c':Nat} (h:m=m') (h2:c=c'):AImp (.sl i sz 0 m c 0) (.sl i sz 0 m' c' 0):=by subst h h2;exact AImp.refl _
theorem zlg {b:Bool} {l:List Sht} {f:Nat} {first cap:List AV} {p:Sht→Bool} (hn:l.length<9223372036854775808) (hon:(AV.fn f first cap).only (olds [])=true) (hoc:∀ x,z07 (olds []) (first++([.agg ((zR x).map .p)]++cap))=true) (hf:∀ x,VP (sE r) f (first++([.agg ((zR x).map .p)]++cap)) (bv (p x))) :
  VP (sE r) 122 [.p (z0W b l),.fn f first cap] (iv (z6f l p)):=by
 refine VP.of (fn:=Tryz.f122) z7 (zu rfl) (by kernel_rfl) rfl rfl rfl ?_
 refine VSt.run z7 false [] 200 rfl trivial ?_
 refine z60 z7 l.length (by omega) (fun _=>[(0,.p (z0W b l)),(1,.fn f first cap)]) (fun _=>[]) (fun k=>∀ i,i<k→p (l.getD i default)=false) rfl rfl (fun _=>rfl) ?_ (fun i hi=>absurd hi (Nat.not_lt_zero i)) (fun k hk hp=>?_) (fun hp=>?_)
 ·(refine Vw.drop (by repeat (first | exact zo | refine zl rfl rfl rfl ?_ | refine z05 rfl ‹_› (zq _ ‹_›) ?_)))
 ·refine VSt.run z7 false [] 200 rfl (⟨hk,rfl⟩) ?_
  refine z5q (hf (l.getD k default)) rfl rfl rfl rfl rfl rfl (hoc _) ?_
  refine VSt.run z7 false [] 200 rfl trivial ?_
  refine VSt.cond rfl (fun hc=>?_) (fun hc=>?_)
  ·refine VSt.run z7 false [] 200 rfl trivial ?_
   refine EndsP.mk rfl rfl rfl ?_
   rw [z4e hk hc hp];rfl
  ·refine VSt.run z7 false [] 200 rfl trivial ?_
   refine ⟨by (refine Vw.drop (by repeat (first | exact zo | refine zl rfl rfl rfl ?_ | refine z05 rfl ‹_› (zq _ ‹_›) ?_))),fun i hi=>?_⟩
   by_cases e:i=k
   ·subst e;exact hc
   ·exact hp i (by omega)
 ·refine VSt.run z7 false [] 200 rfl trivial ?_
  refine EndsP.mk rfl rfl rfl ?_
  rw [z5c hp];rfl
theorem zhm {b:Bool} {l:List Sht} (hb:b=true→l=[]) (hn:l.length<1000000):VC (sE r) [] 109 [.p (z0W b l)] [] (fun a L=>a = .acc b 0 6 l.length∧L=[(0,.acc l.length 6 (fS l) 74)]):=by
 refine VC.of (fn:=Tryz.f109) z7 (zu rfl) (by kernel_rfl) rfl rfl ?_
 refine VSt.run z7 false [] 200 rfl trivial ?_
 refine VSt.cond rfl (fun h=>?_) (fun h=>?_)
 ·refine z01 (z1y 0 6 (fS l) 74 rfl) ?_
  refine VSt.run z7 false [] 200 rfl trivial ?_
  have e:=hb h
  subst e;subst h
  exact ⟨rfl,_,[(0,0)],_,_,rfl,⟨rfl,rfl,z0z rfl rfl z0o zo,_,rfl,LImp.refl _⟩,rfl,rfl⟩
 ·subst h
  cases hl:l with
  | nil =>
   subst hl
   refine VSt.go z7 true [2] 200 rfl (AllP.c rfl AllP.n) ?_
   refine z8 (Vw.trans (z14 (ps:=[(0,0)]) (F0:=[(7,.sl 0 6 0 0 0 2)]) (L0:=[(0,.arr 0 6 (fun _=>[]) 74)]) ⟨rfl,rfl,(by repeat (first | exact zo | refine zl rfl rfl rfl ?_)),_,rfl,LImp.refl _⟩) (Vw.empAcc (sz2:=6) (g:=fS []) (t':=74))) ?_
   refine VSt.run z7 false [] 200 rfl trivial ?_
   exact ⟨rfl,_,[(0,0)],_,_,rfl,⟨rfl,rfl,z0z rfl rfl (AImp.refl _) zo,_,rfl,LImp.refl _⟩,rfl,rfl⟩
  | cons x m =>
   subst hl
   refine VSt.run z7 false [] 200 rfl (⟨Nat.succ_pos _,(by simp only [List.length_cons] at hn ⊢;omega),(fun q hq=>rfl),rfl,rfl,(by simp only [List.length_cons];omega),Nat.le_refl _⟩) ?_
   exact ⟨rfl,_,[(0,1)],_,[(0,.acc (m.length+1) 6 (fS (x::m)) 74)],rfl,⟨rfl,rfl,z0z rfl rfl (zf0 (Nat.succ_pos _) (Nat.zero_add _) (Nat.zero_add _)) zo,_,rfl,⟨rfl,zcR (Nat.zero_add _) fun q hq=>rfl,trivial⟩⟩,rfl,rfl⟩
theorem znN (g:Nat→Sht) (i j q:Nat):(bif Nat.beq q i then zaz (zR (g i)) 0 (zR (g j)) else zR (g q))=zR (if q=i then g j else g q):=by
 by_cases h:q=i
 ·subst h;rw [if_pos rfl,Nat.beq_refl];rfl
 ·rw [if_neg h,z0E h];rfl
theorem zlw {nb:Bool} {l:List Sht} {f:Nat} {id:Int} {p:Sht→Bool} (hf:∀ x,VP (sE r) f [.agg ((zR x).map .p),.p (.fp [.int .i64 id] 0)] (bv (p x))) (hn:l.length≤1000) :
  VC (sE r) [0] 126 [.acc nb 0 6 l.length,.fn f [] [.p (.fp [.int .i64 id] 0)]] [(0,.acc l.length 6 (fS l) 74)]
   (fun a L=>(z6f l p = -1∧a = .acc nb 0 6 l.length∧L=[(0,.acc l.length 6 (fS l) 74)]) ∨
    (¬ z6f l p = -1∧∃ G:Nat→List PV,(l.filter (fun x=>!p x)).length<l.length∧(∀ q,q<(l.filter (fun x=>!p x)).length→G q=zR ((l.filter (fun x=>!p x)).getD q default))∧a = .sl 0 6 0 (l.filter (fun x=>!p x)).length l.length 0∧L=[(0,.arr l.length 6 G 74)])):=by
 refine VC.of (fn:=Tryz.f126) z7 (zu rfl) (by kernel_rfl) rfl rfl ?_
 refine VSt.run z7 false [] 200 rfl trivial ?_
 refine z5r (Vw.trans (Vw.sub' (F0:=[(8,.acc nb 0 6 l.length),(9,.fn f [] [.p (.fp [.int .i64 id] 0)])]) (z6x (by repeat (first | exact z0p | refine z0A rfl ?_)))) (z0t 0 rfl rfl ⟨Nat.le_refl _,rfl⟩)) rfl rfl rfl rfl rfl rfl rfl (zlg (first:=[]) (cap:=[.p (.fp [.int .i64 id] 0)]) (p:=p) (by omega) rfl (fun _=>rfl) (fun x=>hf x)) rfl ?_
 refine VSt.run z7 false [] 200 rfl trivial ?_
 refine VSt.cond rfl (fun h=>?_) (fun h=>?_)
 ·have h:z6f l p = -1:=eq_of_beq h
  refine VSt.run z7 false [] 200 rfl trivial ?_
  exact ⟨rfl,_,[(0,0)],_,_,rfl,⟨rfl,rfl,z0z rfl rfl (AImp.refl _) zo,_,rfl,LImp.refl _⟩,.inl ⟨h,rfl,rfl⟩⟩
 have h:¬ z6f l p = -1:=ne_of_beq_false h
 refine Exists.elim ((z5R l p).resolve_left h) fun k0 hk0=>?_
 have hfst:=z5Q hk0
 have i0:inR (Int.ofNat k0+1):=by unfold inR;simp only [Int.ofNat_eq_natCast];omega
 refine VSt.putC 5 (nv k0) rfl (z0I hk0) ?_
 refine VSt.run z7 false [] 200 rfl (i0) ?_
 refine VSt.loop (α :=Nat×Nat×(Nat→Sht)) (fun x F L=>DelInv l p x.1 x.2.1 x.2.2 ∧
   F=[(0,.acc nb 0 6 l.length),(1,.fn f [] [.p (.fp [.int .i64 id] 0)]),(5,nv x.2.1),(6,nv x.1)]∧L=[(0,.acc l.length 6 (fun q=>zR (x.2.2 q)) 74)]) (fun x=>l.length - x.1) (k0+1,k0,fun q=>l.getD q default) ?_ ⟨DelInv.start hfst,rfl,rfl⟩ ?_
 ·(refine Vw.sub' (z6x (by repeat (first | exact z0p | refine z0A rfl ?_))))
 rintro ⟨j,i,g⟩ F L ⟨hI,rfl,rfl⟩
 have hI:DelInv l p j i g:=hI
 have h1:=hI.le
 have h2:=hI.lt
 refine VSt.run z7 false [] 200 rfl trivial ?_
 refine VSt.cond rfl (fun hc=>?_) (fun hc=>?_)
 ·have hj:j<l.length:=by have:=of_decide_eq_true hc;simp only [Int.ofNat_eq_natCast] at this;omega
  have ij:inR (Int.ofNat j+1):=by unfold inR;simp only [Int.ofNat_eq_natCast];omega
  have ii:inR (Int.ofNat i+1):=by unfold inR;simp only [Int.ofNat_eq_natCast];omega
  have eg:g j=l.getD j default:=hI.rest j (Nat.le_refl _)
  refine VSt.run z7 false [] 200 rfl (⟨hj,rfl,hj,rfl⟩) ?_
  refine VSt.pc rfl rfl rfl rfl rfl rfl rfl rfl ((hf (g j))) ?_
  refine VSt.run z7 false [] 200 rfl trivial ?_
  refine VSt.cond rfl (fun hd=>?_) (fun hd=>?_)
  ·have hd:p (l.getD j default)=false:=by rw [←eg];exact (Bool.not_eq_true' _).mp hd
   refine VSt.run z7 false [] 200 rfl (⟨(show i<l.length by omega),rfl,(show i<l.length by omega),rfl,Nat.le_refl _,ii,ij⟩) ?_
   exact ⟨(j+1,i+1,fun q=>if q=i then g j else g q),_,_,Vw.trans (Vw.sub' (F0:=[(0,.acc nb 0 6 l.length),(1,.fn f [] [.p (.fp [.int .i64 id] 0)]),(5,nv (i+1)),(6,nv (j+1))]) (z6x (by repeat (first | exact z0p | refine z0A rfl ?_)))) (z14 (ps:=[(0,0)]) (F0:=[(0,.acc nb 0 6 l.length),(1,.fn f [] [.p (.fp [.int .i64 id] 0)]),(5,nv (i+1)),(6,nv (j+1))]) (L0:=[(0,.acc l.length 6 (fun q=>zR (if q=i then g j else g q)) 74)]) ⟨rfl,rfl,(by repeat (first | exact zo | refine zl rfl rfl rfl ?_)),_,rfl,⟨rfl,BImp.acc rfl (fun q hq=>znN g i j q),trivial⟩⟩),⟨hI.keep hj hd,rfl,rfl⟩,by show l.length - (j+1)<l.length - j;omega⟩
  ·have hd:p (l.getD j default)=true:=by rw [←eg];exact (Bool.not_eq_false' _).mp hd
   refine VSt.run z7 false [] 200 rfl (ij) ?_
   exact ⟨(j+1,i,g),_,_,z14 (ps:=[(0,0)]) (F0:=[(0,.acc nb 0 6 l.length),(1,.fn f [] [.p (.fp [.int .i64 id] 0)]),(5,nv i),(6,nv (j+1))]) (L0:=[(0,.acc l.length 6 (fun q=>zR (g q)) 74)]) ⟨rfl,rfl,(by repeat (first | exact zo | refine zl rfl rfl rfl ?_)),_,rfl,LImp.refl _⟩,⟨hI.skip hj hd,rfl,rfl⟩,by show l.length - (j+1)<l.length - j;omega⟩
 ·have hj:j=l.length:=by have:=of_decide_eq_false hc;simp only [Int.ofNat_eq_natCast] at this;omega
  subst hj
  have ha:=hI.all
  have hpos:0<l.length:=by omega
  have h1':i≤l.length:=Nat.le_of_lt h2
  refine z01 (z14 (ps:=[(0,0)]) (F0:=[(0,.sl 0 6 0 l.length l.length 0),(5,nv i)]) (L0:=[(0,.arr l.length 6 (fun q=>zR (g q)) 74)]) ⟨rfl,rfl,z0z rfl rfl (zf1 hpos rfl rfl) (zl rfl rfl rfl zo),_,rfl,⟨rfl,zcS hpos rfl (fun q hq=>rfl),trivial⟩⟩) ?_
  refine VSt.run z7 false [] 200 rfl (⟨h1',Nat.le_refl _,.inl h2,rfl,(by show 0+i+(l.length - i)≤l.length;omega),rfl,rfl,Nat.zero_le _,h1',.inr rfl,rfl⟩) ?_
  refine ⟨rfl,_,[(0,0)],_,_,rfl,⟨rfl,rfl,z0z rfl rfl (zjv (by omega) (by omega)) zo,_,rfl,LImp.refl _⟩,.inr ⟨h,_,by rw [←ha.1];exact h2,fun q hq=>?_,rfl,rfl⟩⟩
  rw [←ha.1] at hq
  show (bif Nat.ble (0+i) q&&Nat.blt q (0+i+(l.length - i)) then _ else zR (g q))=_
  rw [show Nat.ble (0+i) q=false from by rw [←Bool.not_eq_true];intro hb;have:=Nat.le_of_ble_eq_true hb;omega]
  rw [←ha.2 q hq];rfl
end Go.Proofs.YtdpipdniklognaaGreat
/- Walks: the sheets of a paper, the program's and the reference's. -/
set_option maxRecDepth 100000
namespace Go.Proofs.YtdpipdniklognaaGreat
variable {r:Rm}
theorem AImp.agg {cs ds:List AV} (h:AImps cs ds):AImp (.agg cs) (.agg ds):=fun E S Z j v hv=>by
 cases hv with
 | agg hs hv=>exact .agg hs (h.vrs hv)
theorem AImp.tup {cs ds:List AV} (h:AImps cs ds):AImp (.tup cs) (.tup ds):=fun E S Z j v hv=>by
 cases hv with
 | tup hv=>exact .tup (h.vrs hv)
theorem zeN (s:Sht) (p:Int):VP (sE r) 146 [.agg ((zR s).map .p),.p (.fp [.int .i64 p] 0)] (bv (!(s.paper==p))):=by
 refine VP.of (fn:=Tryz.f146) z7 (zu rfl) (by kernel_rfl) rfl rfl rfl ?_
 refine VSt.go z7 false [] 200 rfl AllP.n ?_
 exact EndsP.mk rfl rfl rfl rfl
theorem nnot {α : Type} (l:List α) (q : α → Bool):l.filter (fun x=>!!q x)=l.filter q:=by
 congr 1;funext x;cases q x <;> rfl
def zJ (l:List Sht) (p:Int):List Sht:=l.filter fun s=>s.paper==p
theorem zi7 {b:Bool} {l m:List Sht} (hb:b=true→l=[]) (e:m=l):AImp (.p (.lst 74 (b&&Nat.beq l.length 0) l.length (fS l))) (.p (z0W b m)):=by
 subst e
 cases b with
 | true=>rw [hb rfl];exact AImp.refl _
 | false=>exact AImp.refl _
theorem zi6 {b:Bool} {l m m':List Sht} {G:Nat→List PV} (hb:b=true→l=[]) (e:m'=m) (hm:m'.length<l.length) (hG:∀ q,q<m'.length→G q=zR (m'.getD q default)):AImp (.p (.lst 74 false m'.length fun k=>G (0+k))) (.p (z0W b m)):=by
 subst e
 cases b with
 | true=>rw [hb rfl] at hm;exact absurd hm (Nat.not_lt_zero _)
 | false=>exact AImp.lst fun k hk=>by rw [Nat.zero_add];exact hG k hk
theorem zht {h:Hp} {p:Int} (hz:SzH h) (hn:h.st.length≤1000):VP (sE r) 107 [.agg ((eHp h).map .p),iv p] (.p (z0W h.stB (zJ h.st p))):=by
 refine VP.of (fn:=Tryz.f107) z7 (zu rfl) (by kernel_rfl) rfl rfl rfl ?_
 refine VSt.go z7 false [] 200 rfl AllP.n ?_
 refine z8 (zb 0 (eHp h) rfl rfl) ?_
 refine z8 (zb 1 [.int .i64 p] rfl rfl) ?_
 refine VSt.cc [] rfl rfl rfl rfl rfl rfl rfl rfl rfl rfl rfl (zhm hz.stN (by omega)) ?_
 rintro a L' ⟨rfl,rfl⟩
 refine VSt.go z7 false [] 200 rfl AllP.n ?_
 refine VSt.cc [(0,0)] rfl rfl rfl rfl rfl rfl rfl rfl rfl rfl rfl (zlw (f:=146) (id:=p) (p:=fun s=>!(s.paper==p)) (fun x=>zeN x p) hn) ?_
 rintro a L' (⟨g,rfl,rfl⟩ | ⟨g,G,hm,hG,rfl,rfl⟩)
 ·refine z8 (Vw.kp [9] [(0,0)] rfl) ?_
  refine z8 (z0t 0 rfl rfl ⟨Nat.le_refl _,rfl⟩) ?_
  refine z03 9 (.p (z0W h.stB (zJ h.st p))) rfl (zi7 hz.stN (by have:=z9G g;rw [nnot] at this;exact this)) ?_
  refine VSt.go z7 false [] 200 rfl AllP.n ?_
  exact EndsP.mk rfl rfl rfl rfl
 ·have hm':=Nat.le_of_lt hm
  refine z8 (Vw.kp [9] [(0,0)] rfl) ?_
  refine z8 (Vw.freeze 0 rfl rfl ⟨by rw [Nat.zero_add];exact hm',hm',rfl⟩) ?_
  refine z03 9 (.p (z0W h.stB (zJ h.st p))) rfl (zi6 hz.stN (nnot _ _) hm hG) ?_
  refine VSt.go z7 false [] 200 rfl AllP.n ?_
  exact EndsP.mk rfl rfl rfl rfl
theorem z9v {α β : Type} [Inhabited α] {l:List α} {f : α → β} {k:Nat} (h:k<l.length):(l.take (k+1)).map f=(l.take k).map f++[f (l.getD k default)]:=by
 rw [z29 l h,List.map_append];rfl
noncomputable def ppE (h:Hp) (p:Int):Int:=if ckH h=0 then (bif wth p 1 999 then 0 else 1) else 51
theorem z8P (h:Hp):(OkH h∧ckH h=0)∨(¬ OkH h∧ckH h=51):=by
 unfold ckH
 by_cases c:OkH h
 ·exact .inl ⟨c,if_pos c⟩
 ·exact .inr ⟨c,if_neg c⟩
theorem zg8 {h:Hp} {p:Int} (e:ckH h=51):ppE h p=51:=if_neg (by rw [e];decide)
theorem zg9 {h:Hp} {p:Int} (e:ckH h=0) (g:wth p 1 999=false):ppE h p=1:=by unfold ppE;rw [if_pos e,g];rfl
theorem zbZ {h:Hp} {p:Int} (e:ckH h=0) (g:wth p 1 999=true):ppE h p=0:=by unfold ppE;rw [if_pos e,g];rfl
theorem z44 {h:Hp} {p:Int} (hz:SzH h):VP (sE r) 72 [.agg ((eHp h).map .p),iv p] (iv (ppE h p)):=by
 have hc:=z9V (r:=r) hz
 refine VP.of (fn:=Tryz.f72) z7 (zu rfl) (by kernel_rfl) rfl rfl rfl ?_
 refine VSt.go z7 false [] 200 rfl AllP.n ?_
 rcases z8P h with ⟨_,e⟩ | ⟨_,e⟩ <;> rw [e] at hc
 ·refine VSt.pc rfl rfl rfl rfl rfl rfl rfl rfl (hc) ?_
  refine VSt.go z7 false [] 200 rfl AllP.n ?_
  refine VSt.cond rfl (fun q=>absurd q (by decide)) (fun _=>?_)
  refine VSt.go z7 false [] 200 rfl AllP.n ?_
  refine VSt.pc rfl rfl rfl rfl rfl rfl rfl rfl ((z8x p)) ?_
  refine VSt.go z7 false [] 200 rfl AllP.n ?_
  refine VSt.cond rfl (fun q=>?_) (fun q=>?_)
  ·refine VSt.go z7 false [] 200 rfl AllP.n ?_
   refine EndsP.mk rfl rfl rfl ?_
   rw [zg9 e (nt q)];rfl
  ·refine VSt.go z7 false [] 200 rfl AllP.n ?_
   refine EndsP.mk rfl rfl rfl ?_
   rw [zbZ e (nf q)];rfl
 ·refine VSt.pc rfl rfl rfl rfl rfl rfl rfl rfl (hc) ?_
  refine VSt.go z7 false [] 200 rfl AllP.n ?_
  refine VSt.cond rfl (fun _=>?_) (fun q=>absurd q (by decide))
  refine VSt.go z7 false [] 200 rfl AllP.n ?_
  refine EndsP.mk rfl rfl rfl ?_
  rw [zg8 e];rfl
theorem z3f {h:Hp} {p:Int} (hz:SzH h):VP (sE r) 88 [.agg ((eHp h).map .p),iv p] (iv (ppE h p)):=by
 have hc:=zaw (r:=r) hz
 refine VP.of (fn:=Tryz.f88) z7 (zu rfl) (by kernel_rfl) rfl rfl rfl ?_
 refine VSt.go z7 false [] 200 rfl AllP.n ?_
 rcases z8P h with ⟨_,e⟩ | ⟨_,e⟩ <;> rw [e] at hc
 ·refine VSt.pc rfl rfl rfl rfl rfl rfl rfl rfl (hc) ?_
  refine VSt.go z7 false [] 200 rfl AllP.n ?_
  refine VSt.cond rfl (fun q=>absurd q (by decide)) (fun _=>?_)
  refine VSt.go z7 false [] 200 rfl AllP.n ?_
  refine VSt.pc rfl rfl rfl rfl rfl rfl rfl rfl ((z4r p 1 999)) ?_
  refine VSt.go z7 false [] 200 rfl AllP.n ?_
  refine VSt.cond rfl (fun q=>?_) (fun q=>?_)
  ·refine VSt.go z7 false [] 200 rfl AllP.n ?_
   refine EndsP.mk rfl rfl rfl ?_
   rw [zg9 e (nt q)];rfl
  ·refine VSt.go z7 false [] 200 rfl AllP.n ?_
   refine EndsP.mk rfl rfl rfl ?_
   rw [zbZ e (nf q)];rfl
 ·refine VSt.pc rfl rfl rfl rfl rfl rfl rfl rfl (hc) ?_
  refine VSt.go z7 false [] 200 rfl AllP.n ?_
  refine VSt.cond rfl (fun _=>?_) (fun q=>absurd q (by decide))
  refine VSt.go z7 false [] 200 rfl AllP.n ?_
  refine EndsP.mk rfl rfl rfl ?_
  rw [zg8 e];rfl
theorem z18 (h:Hp) (p:Int):(OkH h∧ppE h p=0)∨((!(ppE h p==0))=true):=by
 rcases z8P h with ⟨c,e⟩ | ⟨_,e⟩
 ·by_cases g:wth p 1 999=true
  ·exact .inl ⟨c,zbZ e g⟩
  ·rw [zg9 e (by simpa using g)];exact .inr rfl
 ·rw [zg8 e];exact .inr rfl
theorem z3J {h:Hp} {p:Int} (e:(!(ppE h p==0))=true):¬ ppE h p=0:=fun g=>by rw [g] at e;cases e
end Go.Proofs.YtdpipdniklognaaGreat
/- Walks: the sheets that are asked for; which one is sewn to which; which may follow. -/
set_option maxRecDepth 100000
namespace Go.Proofs.YtdpipdniklognaaGreat
variable {r:Rm}
def shG (l:List Sht) (ids:List Int):List Sht:=ids.map fun id=>za l (zS l id)
noncomputable def shE (h:Hp) (ids:List Int):Int:=if ckH h=0 then (bif ids.all (z4D h.st) then 0 else 53) else 51
noncomputable def shV (h:Hp) (ids:List Int):List Sht:=if shE h ids=0 then shG h.st ids else []
theorem zlK (l:List Sht) (y:Sht) (ps:List PV) (hp:ps=zR y) (q:Nat) (hq:q<l.length+1):(bif Nat.blt q l.length then fS l q else (ps.drop ((q - l.length)*6)).take 6)=fS (l++[y]) q:=by
 subst hp
 unfold fS za
 by_cases e:q<l.length
 ·rw [zhw e]
  simp only [cond_true,List.getD_eq_getElem?_getD]
  rw [List.getElem?_append_left e]
 ·have:q=l.length:=by omega
  subst this
  rw [zhx e,Nat.sub_self]
  simp only [cond_false,List.getD_eq_getElem?_getD]
  rw [List.getElem?_append_right (Nat.le_refl _),Nat.sub_self];rfl
def eLS (l:List Sht):PV:=z0W l.isEmpty l
theorem zlQ {l:List Sht} {n:Nat} (hn:n=l.length):(AV.p (.lst 74 (true&&Nat.beq n 0) n (fS l))) = .p (eLS l):=by
 subst hn
 cases l <;> rfl
theorem zjz {h:Hp} {ids:List Int} (e:ckH h=51):shE h ids=51∧shV h ids=[]:=by
 have:shE h ids=51:=if_neg (by rw [e];decide)
 exact ⟨this,if_neg (by rw [this];decide)⟩
theorem zic {h:Hp} {ids:List Int} (e:ckH h=0) (g:ids.all (z4D h.st)=false):shE h ids=53∧shV h ids=[]:=by
 have:shE h ids=53:=by unfold shE;rw [if_pos e,g];rfl
 exact ⟨this,if_neg (by rw [this];decide)⟩
theorem zib {h:Hp} {ids:List Int} (e:ckH h=0) (g:ids.all (z4D h.st)=true):shE h ids=0∧shV h ids=shG h.st ids:=by
 have:shE h ids=0:=by unfold shE;rw [if_pos e,g];rfl
 exact ⟨this,if_pos this⟩
set_option maxHeartbeats 4000000 in
theorem zfP {h:Hp} {b:Bool} {ids:List Int} (hz:SzH h) (hn:ids.length≤1048576):VP (sE r) 67 [.agg ((eHp h).map .p),.p (z3E b ids)] (.tup [.p (eLS (shV h ids)),iv (shE h ids)]):=by
 have hc:=z9V (r:=r) hz
 refine VP.of (fn:=Tryz.f67) z7 (zu rfl) (by kernel_rfl) rfl rfl rfl ?_
 refine VSt.go z7 false [] 200 rfl AllP.n ?_
 refine z8 (zb 0 (eHp h) rfl rfl) ?_
 rcases z8P h with ⟨hO,e⟩ | ⟨_,e⟩ <;> rw [e] at hc
 rotate_left
 ·rw [(zjz (ids:=ids) e).1,(zjz (ids:=ids) e).2]
  refine VSt.pc rfl rfl rfl rfl rfl rfl rfl rfl (hc) ?_
  refine VSt.go z7 false [] 200 rfl AllP.n ?_
  refine VSt.cond rfl (fun _=>?_) (fun q=>absurd q (by decide))
  refine VSt.go z7 false [5] 200 rfl AllP.n ?_
  refine z03 4 (.p (eLS [])) rfl AImp.nil ?_
  refine VSt.go z7 false [] 200 rfl AllP.n ?_
  exact EndsP.mk rfl rfl rfl rfl
 have hl:=hO.st
 have hR:=hO.rise
 refine VSt.pc rfl rfl rfl rfl rfl rfl rfl rfl (hc) ?_
 refine VSt.go z7 false [] 200 rfl AllP.n ?_
 refine VSt.cond rfl (fun q=>absurd q (by decide)) (fun _=>?_)
 refine VSt.go z7 false [] 200 rfl AllP.n ?_
 refine z01 (z1y 0 6 (fS []) 74 rfl) ?_
 refine z0J z7 ids.length (by omega) [2,17] (fun k=>[(7,.acc true 0 6 (shG h.st (ids.take k)).length)]) (fun k=>[(0,.acc (shG h.st (ids.take k)).length 6 (fS (shG h.st (ids.take k))) 74)]) (fun k=>∀ i,i<k→z4D h.st (ids.getD i 0)=true) rfl rfl rfl (fun _=>rfl) rfl rfl (z0K rfl z0o z0l) (LImp.refl _) none0 (fun k hk hp=>?_) (fun hp=>?_)
 ·have e1:shG h.st (ids.take (k+1))=shG h.st (ids.take k)++[za h.st (zS h.st (ids.getD k 0))]:=by
   unfold shG
   rw [List.take_add_one,z0a hk,List.getElem?_eq_getElem hk,List.map_append];rfl
  have hlen:(shG h.st (ids.take k)).length=k:=by unfold shG;rw [List.length_map,List.length_take];omega
  have hN:=congrArg List.length e1
  rw [List.length_append,List.length_singleton] at hN
  have hA:=z3O (s:=ids.getD k 0) hR
  refine VSt.go z7 false [] 200 rfl (AllP.c ‹_› (AllP.c rfl AllP.n)) ?_
  refine VSt.pc rfl rfl rfl rfl rfl rfl rfl rfl ((find_ok (b:=h.stB) (b2:=h.swB) (l:=h.st) (w:=h.sw) (s:=ids.getD k 0) hR (by omega))) ?_
  refine VSt.go z7 false [] 200 rfl AllP.n ?_
  refine VSt.cond rfl (fun q=>?_) (fun q=>?_)
  ·have q:=nt q
   have g:ids.all (z4D h.st)=false:=by
    rw [←Bool.not_eq_true,List.all_eq_true]
    intro g
    rw [g _ (z0e (d:=0) hk)] at q;cases q
   rw [(zic e g).1,(zic e g).2]
   refine VSt.go z7 false [5] 200 rfl AllP.n ?_
   refine z03 4 (.p (eLS [])) rfl AImp.nil ?_
   refine VSt.go z7 false [] 200 rfl AllP.n ?_
   exact EndsP.mk rfl rfl rfl rfl
  ·have q:=nf q
   have d1:=(hA q).1
   refine VSt.go z7 false [] 200 rfl (AllP.c ‹_› (AllP.c rfl (AllP.c (by omega) (AllP.c (by omega) (AllP.c (fun q hq=>match q,hq with | 0,_=>rfl) (AllP.c rfl (AllP.c rfl (AllP.c rfl AllP.n)))))))) ?_
   refine ⟨?_,z0d hp q⟩
   exact z14 (ps:=[(0,1)]) ⟨rfl,rfl,(by repeat (first | exact zo | refine zl rfl rfl rfl ?_ | refine z0z rfl rfl z16 ?_ | refine z0z rfl rfl (AImp.acc hN.symm (fun _=>rfl)) ?_)),_,rfl,⟨rfl,BImp.acc hN.symm (fun x hx=>by rw [e1];exact zlK _ _ _ rfl x hx),trivial⟩⟩
 ·have g:ids.all (z4D h.st)=true:=List.all_eq_true.2 fun x hx=>by
   obtain ⟨k,hk,rfl⟩:=z0u (d:=0) hx
   exact hp k hk
  rw [(zib e g).1,(zib e g).2,List.take_length]
  refine VSt.go z7 false [40] 200 rfl AllP.n ?_
  refine z8 (Vw.kp [7] [(0,0)] rfl) ?_
  refine z8 (z0t 0 rfl rfl ⟨Nat.le_refl _,rfl⟩) ?_
  refine z03 7 (.p (eLS (shG h.st ids))) rfl (z00 (zlQ rfl)) ?_
  refine VSt.go z7 false [] 200 rfl AllP.n ?_
  exact EndsP.mk rfl rfl rfl rfl
end Go.Proofs.YtdpipdniklognaaGreat
/- Walks: a heap without a sheet, the program's. -/
set_option maxRecDepth 100000
namespace Go.Proofs.YtdpipdniklognaaGreat
variable {r:Rm}
end Go.Proofs.YtdpipdniklognaaGreat
/- Walks: Without, the program's and the reference's. -/
set_option maxRecDepth 100000
namespace Go.Proofs.YtdpipdniklognaaGreat
variable {r:Rm}
end Go.Proofs.YtdpipdniklognaaGreat
/- Walks: Follows of the program. -/
set_option maxRecDepth 100000
namespace Go.Proofs.YtdpipdniklognaaGreat
variable {r:Rm}
def toK (w:List Sew) (id:Int):Nat→Int
 | 0=>0
 | k+1=>bif (zy w k).fro==id then (zy w k).too else toK w id k
def frK (w:List Sew) (id:Int):Nat→Int
 | 0=>0
 | k+1=>bif (zy w k).too==id then (zy w k).fro else frK w id k
def toS (h:Hp) (id:Int):Int:=toK h.sw id h.sw.length
def frS (h:Hp) (id:Int):Int:=frK h.sw id h.sw.length
theorem z97 {h:Hp} {id:Int} (hn:h.sw.length<9223372036854775808):VP (sE r) 112 [.agg ((eHp h).map .p),iv id] (.tup [iv (toS h id),iv (frS h id)]):=by
 refine VP.of (fn:=Tryz.f112) z7 (zu rfl) (by kernel_rfl) rfl rfl rfl ?_
 refine VSt.go z7 false [] 200 rfl AllP.n ?_
 refine z01 (zb 0 (eHp h) rfl rfl) ?_
 refine z0J z7 h.sw.length hn [1,9] (fun k=>[(4,iv (toK h.sw id k)),(5,iv (frK h.sw id k))]) (fun _=>[]) (fun _=>True) rfl rfl rfl (fun _=>rfl) rfl rfl (z0K rfl (AImp.refl _) (z0K rfl (AImp.refl _) z0l)) trivial trivial (fun k hk _=>?_) (fun _=>?_)
 ·refine VSt.go z7 false [] 200 rfl (AllP.c ‹_› (AllP.c rfl AllP.n)) ?_
  refine VSt.cond rfl (fun h1=>?x1) (fun h1=>?x2)
  case' x1 =>
   have e1:toK h.sw id (k+1)=(zy h.sw k).too:=by
    show (bif (zy h.sw k).fro==id then _ else _)=_
    rw [show ((zy h.sw k).fro==id)=true from h1];rfl
  case' x2 =>
   have e1:toK h.sw id (k+1)=toK h.sw id k:=by
    show (bif (zy h.sw k).fro==id then _ else _)=_
    rw [show ((zy h.sw k).fro==id)=false from h1];rfl
  all_goals
   refine VSt.go z7 false [] 200 rfl AllP.n ?_
   refine VSt.cond rfl (fun h2=>?_) (fun h2=>?_)
   ·have e2:frK h.sw id (k+1)=(zy h.sw k).fro:=by
     show (bif (zy h.sw k).too==id then _ else _)=_
     rw [show ((zy h.sw k).too==id)=true from h2];rfl
    refine VSt.go z7 false [] 200 rfl AllP.n ?_
    refine ⟨?_,trivial⟩
    dsimp only
    rw [e1,e2]
    (refine Vw.drop (by repeat (first | exact zo | refine zl rfl rfl rfl ?_ | refine z05 rfl ‹_› (zq _ ‹_›) ?_)))
   ·have e2:frK h.sw id (k+1)=frK h.sw id k:=by
     show (bif (zy h.sw k).too==id then _ else _)=_
     rw [show ((zy h.sw k).too==id)=false from h2];rfl
    refine VSt.go z7 false [] 200 rfl AllP.n ?_
    refine ⟨?_,trivial⟩
    dsimp only
    rw [e1,e2]
    (refine Vw.drop (by repeat (first | exact zo | refine zl rfl rfl rfl ?_ | refine z05 rfl ‹_› (zq _ ‹_›) ?_)))
 ·refine VSt.go z7 false [] 200 rfl AllP.n ?_
  exact EndsP.mk rfl rfl rfl rfl
def zch (h:Hp) (a b:Sht):Bool:=(a.catch_==b.first||(a.catch_==0||b.first==0))&&((toS h a.id==0||toS h a.id==b.id)&&(frS h b.id==0||frS h b.id==a.id))
theorem z3A {h:Hp} {a b:Sht} (h1:(a.catch_==b.first||(a.catch_==0||b.first==0))=true) (h2:(toS h a.id==0||toS h a.id==b.id)=true):zch h a b=(frS h b.id==0||frS h b.id==a.id):=by
 unfold zch;rw [h1,h2];rfl
theorem zl5 {h:Hp} {a b:Sht} (h1:(a.catch_==b.first||(a.catch_==0||b.first==0))=false):zch h a b=false:=by
 unfold zch;rw [h1];rfl
theorem zcg {h:Hp} {a b:Sht} (h1:(toS h a.id==0||toS h a.id==b.id)=false):zch h a b=false:=by
 unfold zch;rw [h1];cases (a.catch_==b.first||(a.catch_==0||b.first==0)) <;> rfl
set_option maxHeartbeats 4000000 in
theorem zmD {h:Hp} {a b:Sht} (hn:h.sw.length<9223372036854775808):VP (sE r) 113 [.agg ((eHp h).map .p),.agg ((zR a).map .p),.agg ((zR b).map .p)] (bv (zch h a b)):=by
 have s1:=z97 (r:=r) (h:=h) (id:=a.id) hn
 have s2:=z97 (r:=r) (h:=h) (id:=b.id) hn
 refine VP.of (fn:=Tryz.f113) z7 (zu rfl) (by kernel_rfl) rfl rfl rfl ?_
 refine VSt.go z7 false [] 200 rfl AllP.n ?_
 refine z8 (zb 0 (eHp h) rfl rfl) ?_
 refine z8 (zb 1 (zR a) rfl rfl) ?_
 refine z8 (zb 2 (zR b) rfl rfl) ?_
 refine VSt.pc rfl rfl rfl rfl rfl rfl rfl rfl (s1) ?_
 refine VSt.go z7 false [] 200 rfl AllP.n ?_
 refine VSt.pc rfl rfl rfl rfl rfl rfl rfl rfl (s2) ?_
 refine VSt.go z7 false [] 200 rfl AllP.n ?_
 refine zg 30 rfl (fun hA=>?_) (fun hA=>?_)
 ·have h40:(a.catch_==b.first||(a.catch_==0||b.first==0))=true:=by rw [show (a.catch_==b.first)=true from hA];rfl
  refine VSt.go z7 false [] 200 rfl AllP.n ?_
  refine zg 43 rfl (fun d1=>?_) (fun d1=>?_)
  ·have d2:(toS h a.id==0||toS h a.id==b.id)=true:=by rw [show (toS h a.id==0)=true from d1];rfl
   refine VSt.go z7 false [] 200 rfl AllP.n ?_
   refine zg 53 rfl (fun f1=>?_) (fun f1=>?_)
   ·refine VSt.go z7 false [] 200 rfl AllP.n ?_
    refine EndsP.mk rfl rfl rfl ?_
    show bv _=bv _
    rw [z3A h40 d2,show (frS h b.id==0)=true from f1];rfl
   ·refine VSt.go z7 false [] 200 rfl AllP.n ?_
    refine EndsP.mk rfl rfl rfl ?_
    show bv _=bv _
    rw [z3A h40 d2,show (frS h b.id==0)=false from f1];rfl
  ·refine VSt.go z7 false [] 200 rfl AllP.n ?_
   refine zg 50 rfl (fun e1=>?_) (fun e1=>?_)
   ·have d2:(toS h a.id==0||toS h a.id==b.id)=true:=by rw [show (toS h a.id==0)=false from d1,show (toS h a.id==b.id)=true from e1];rfl
    refine VSt.go z7 false [] 200 rfl AllP.n ?_
    refine zg 53 rfl (fun f1=>?_) (fun f1=>?_)
    ·refine VSt.go z7 false [] 200 rfl AllP.n ?_
     refine EndsP.mk rfl rfl rfl ?_
     show bv _=bv _
     rw [z3A h40 d2,show (frS h b.id==0)=true from f1];rfl
    ·refine VSt.go z7 false [] 200 rfl AllP.n ?_
     refine EndsP.mk rfl rfl rfl ?_
     show bv _=bv _
     rw [z3A h40 d2,show (frS h b.id==0)=false from f1];rfl
   ·refine VSt.go z7 false [] 200 rfl AllP.n ?_
    refine EndsP.mk rfl rfl rfl ?_
    show bv _=bv _
    rw [zcg (by rw [show (toS h a.id==0)=false from d1,show (toS h a.id==b.id)=false from e1];rfl)]
 refine VSt.go z7 false [] 200 rfl AllP.n ?_
 refine zg 35 rfl (fun hB=>?_) (fun hB=>?_)
 ·have h40:(a.catch_==b.first||(a.catch_==0||b.first==0))=true:=by rw [show (a.catch_==b.first)=false from hA,show (a.catch_==0)=true from hB];rfl
  refine VSt.go z7 false [] 200 rfl AllP.n ?_
  refine zg 43 rfl (fun d1=>?_) (fun d1=>?_)
  ·have d2:(toS h a.id==0||toS h a.id==b.id)=true:=by rw [show (toS h a.id==0)=true from d1];rfl
   refine VSt.go z7 false [] 200 rfl AllP.n ?_
   refine zg 53 rfl (fun f1=>?_) (fun f1=>?_)
   ·refine VSt.go z7 false [] 200 rfl AllP.n ?_
    refine EndsP.mk rfl rfl rfl ?_
    show bv _=bv _
    rw [z3A h40 d2,show (frS h b.id==0)=true from f1];rfl
   ·refine VSt.go z7 false [] 200 rfl AllP.n ?_
    refine EndsP.mk rfl rfl rfl ?_
    show bv _=bv _
    rw [z3A h40 d2,show (frS h b.id==0)=false from f1];rfl
  ·refine VSt.go z7 false [] 200 rfl AllP.n ?_
   refine zg 50 rfl (fun e1=>?_) (fun e1=>?_)
   ·have d2:(toS h a.id==0||toS h a.id==b.id)=true:=by rw [show (toS h a.id==0)=false from d1,show (toS h a.id==b.id)=true from e1];rfl
    refine VSt.go z7 false [] 200 rfl AllP.n ?_
    refine zg 53 rfl (fun f1=>?_) (fun f1=>?_)
    ·refine VSt.go z7 false [] 200 rfl AllP.n ?_
     refine EndsP.mk rfl rfl rfl ?_
     show bv _=bv _
     rw [z3A h40 d2,show (frS h b.id==0)=true from f1];rfl
    ·refine VSt.go z7 false [] 200 rfl AllP.n ?_
     refine EndsP.mk rfl rfl rfl ?_
     show bv _=bv _
     rw [z3A h40 d2,show (frS h b.id==0)=false from f1];rfl
   ·refine VSt.go z7 false [] 200 rfl AllP.n ?_
    refine EndsP.mk rfl rfl rfl ?_
    show bv _=bv _
    rw [zcg (by rw [show (toS h a.id==0)=false from d1,show (toS h a.id==b.id)=false from e1];rfl)]
 refine VSt.go z7 false [] 200 rfl AllP.n ?_
 refine zg 40 rfl (fun hC=>?_) (fun hC=>?_)
 ·have h40:(a.catch_==b.first||(a.catch_==0||b.first==0))=true:=by rw [show (a.catch_==b.first)=false from hA,show (a.catch_==0)=false from hB,show (b.first==0)=true from hC];rfl
  refine VSt.go z7 false [] 200 rfl AllP.n ?_
  refine zg 43 rfl (fun d1=>?_) (fun d1=>?_)
  ·have d2:(toS h a.id==0||toS h a.id==b.id)=true:=by rw [show (toS h a.id==0)=true from d1];rfl
   refine VSt.go z7 false [] 200 rfl AllP.n ?_
   refine zg 53 rfl (fun f1=>?_) (fun f1=>?_)
   ·refine VSt.go z7 false [] 200 rfl AllP.n ?_
    refine EndsP.mk rfl rfl rfl ?_
    show bv _=bv _
    rw [z3A h40 d2,show (frS h b.id==0)=true from f1];rfl
   ·refine VSt.go z7 false [] 200 rfl AllP.n ?_
    refine EndsP.mk rfl rfl rfl ?_
    show bv _=bv _
    rw [z3A h40 d2,show (frS h b.id==0)=false from f1];rfl
  ·refine VSt.go z7 false [] 200 rfl AllP.n ?_
   refine zg 50 rfl (fun e1=>?_) (fun e1=>?_)
   ·have d2:(toS h a.id==0||toS h a.id==b.id)=true:=by rw [show (toS h a.id==0)=false from d1,show (toS h a.id==b.id)=true from e1];rfl
    refine VSt.go z7 false [] 200 rfl AllP.n ?_
    refine zg 53 rfl (fun f1=>?_) (fun f1=>?_)
    ·refine VSt.go z7 false [] 200 rfl AllP.n ?_
     refine EndsP.mk rfl rfl rfl ?_
     show bv _=bv _
     rw [z3A h40 d2,show (frS h b.id==0)=true from f1];rfl
    ·refine VSt.go z7 false [] 200 rfl AllP.n ?_
     refine EndsP.mk rfl rfl rfl ?_
     show bv _=bv _
     rw [z3A h40 d2,show (frS h b.id==0)=false from f1];rfl
   ·refine VSt.go z7 false [] 200 rfl AllP.n ?_
    refine EndsP.mk rfl rfl rfl ?_
    show bv _=bv _
    rw [zcg (by rw [show (toS h a.id==0)=false from d1,show (toS h a.id==b.id)=false from e1];rfl)]
 refine VSt.go z7 false [] 200 rfl AllP.n ?_
 refine EndsP.mk rfl rfl rfl ?_
 show bv _=bv _
 rw [zl5 (by rw [show (a.catch_==b.first)=false from hA,show (a.catch_==0)=false from hB,show (b.first==0)=false from hC];rfl)]
end Go.Proofs.YtdpipdniklognaaGreat
/- Walks: Follows of both sides. -/
set_option maxRecDepth 100000
namespace Go.Proofs.YtdpipdniklognaaGreat
variable {r:Rm}
def zap (h:Hp) (x y:Sht):Bool:=h.sw.all fun t=>(t.fro==x.id)==(t.too==y.id)
def z5D (h:Hp) (i k:Nat) (x y:Sht):Bool:=!(i==k||(!(x.paper==y.paper)||(!(x.catch_==y.first)&&(!(x.catch_==0) && !(y.first==0)))))&&zap h x y
theorem zbW {h:Hp} {i k:Nat} {x y:Sht} (g:(i==k||(!(x.paper==y.paper)||(!(x.catch_==y.first)&&(!(x.catch_==0) && !(y.first==0)))))=true):z5D h i k x y=false:=by unfold z5D;rw [g];rfl
theorem zkC {h:Hp} {i k:Nat} {x y:Sht} (g:(i==k||(!(x.paper==y.paper)||(!(x.catch_==y.first)&&(!(x.catch_==0) && !(y.first==0)))))=false):z5D h i k x y=zap h x y:=by unfold z5D;rw [g];rfl
theorem zgw (i k:Nat):(Int.ofNat i==Int.ofNat k)=(i==k):=by
 rw [Bool.eq_iff_iff,beq_iff_eq,beq_iff_eq];exact Int.ofNat_inj
set_option maxHeartbeats 8000000 in
theorem zfX {h:Hp} {i k:Nat} (hz:SzH h) (hi:i<h.st.length) (hk:k<h.st.length):VP (sE r) 114 [.agg ((eHp h).map .p),nv i,nv k] (bv (z5D h i k (za h.st i) (za h.st k))):=by
 have hn:=hz.st
 have hm:=hz.sw
 refine VP.of (fn:=Tryz.f114) z7 (zu rfl) (by kernel_rfl) rfl rfl rfl ?_
 refine VSt.go z7 false [] 200 rfl (AllP.c ‹_› (AllP.c rfl (AllP.c ‹_› (AllP.c rfl AllP.n)))) ?_
 refine z8 (zb 0 (eHp h) rfl rfl) ?_
 refine z8 (zb 1 (zR (za h.st i)) rfl rfl) ?_
 refine z8 (zb 2 (zR (za h.st k)) rfl rfl) ?_
 refine zg 23 rfl (fun hA=>?_) (fun hA=>?_)
 ·refine VSt.go z7 false [] 200 rfl AllP.n ?_
  refine EndsP.mk rfl rfl rfl ?_
  show bv _=bv _
  rw [zbW (by rw [←zgw,show (Int.ofNat i==Int.ofNat k)=true from hA];rfl)]
 have a1:(i==k)=false:=by rw [←zgw];exact hA
 refine VSt.go z7 false [] 200 rfl AllP.n ?_
 refine zg 30 rfl (fun hB=>?_) (fun hB=>?_)
 ·refine VSt.go z7 false [] 200 rfl AllP.n ?_
  refine EndsP.mk rfl rfl rfl ?_
  show bv _=bv _
  rw [zbW (by rw [a1,show (!((za h.st i).paper==(za h.st k).paper))=true from hB];rfl)]
 have a2:(!((za h.st i).paper==(za h.st k).paper))=false:=hB
 refine VSt.go z7 false [] 200 rfl AllP.n ?_
 refine zg 36 rfl (fun hC=>?x1) (fun hC=>?x2)
 case' x2 =>
  have a3:(i==k||(!((za h.st i).paper==(za h.st k).paper)||(!((za h.st i).catch_==(za h.st k).first)&&(!((za h.st i).catch_==0) && !((za h.st k).first==0)))))=false:=by rw [a1,a2,show (!((za h.st i).catch_==(za h.st k).first))=false from hC];rfl
 case' x1 =>
  refine VSt.go z7 false [] 200 rfl AllP.n ?_
  refine zg 41 rfl (fun hD=>?y1) (fun hD=>?y2)
  case' y2 =>
   have a3:(i==k||(!((za h.st i).paper==(za h.st k).paper)||(!((za h.st i).catch_==(za h.st k).first)&&(!((za h.st i).catch_==0) && !((za h.st k).first==0)))))=false:=by rw [a1,a2,show (!((za h.st i).catch_==(za h.st k).first))=true from hC,show (!((za h.st i).catch_==0))=false from hD];rfl
  case' y1 =>
   refine VSt.go z7 false [] 200 rfl AllP.n ?_
   refine VSt.cond rfl (fun hE=>?_) (fun hE=>?z2)
   ·refine VSt.go z7 false [] 200 rfl AllP.n ?_
    refine EndsP.mk rfl rfl rfl ?_
    show bv _=bv _
    rw [zbW (by rw [a1,a2,show (!((za h.st i).catch_==(za h.st k).first))=true from hC,show (!((za h.st i).catch_==0))=true from hD,show (!((za h.st k).first==0))=true from hE];rfl)]
   have a3:(i==k||(!((za h.st i).paper==(za h.st k).paper)||(!((za h.st i).catch_==(za h.st k).first)&&(!((za h.st i).catch_==0) && !((za h.st k).first==0)))))=false:=by rw [a1,a2,show (!((za h.st i).catch_==(za h.st k).first))=true from hC,show (!((za h.st i).catch_==0))=true from hD,show (!((za h.st k).first==0))=false from hE];rfl
 all_goals
  rw [zkC a3]
  refine VSt.go z7 false [] 200 rfl AllP.n ?_
  refine z09 (ti:=9) h.sw.length [3,7,8] (fun _=>[]) (fun _=>[]) (fun j=>∀ q,q<j→(((zy h.sw q).fro==(za h.st i).id)==((zy h.sw q).too==(za h.st k).id))=true) rfl rfl z0l trivial none0 (fun j hj hp=>?_)
  refine VSt.go z7 false [] 200 rfl AllP.n ?_
  refine VSt.cond rfl (fun g=>?_) (fun g=>?_)
  ·have g:=nlt g
   refine VSt.go z7 false [] 200 rfl (AllP.c ‹_› (AllP.c rfl (AllP.c ‹_› (AllP.c rfl AllP.n)))) ?_
   refine VSt.cond rfl (fun hF=>?_) (fun hF=>?_)
   ·have hF:(!(((zy h.sw j).fro==(za h.st i).id)==((zy h.sw j).too==(za h.st k).id)))=true:=hF
    refine VSt.go z7 false [] 200 rfl AllP.n ?_
    refine EndsP.mk rfl rfl rfl ?_
    show bv false=bv _
    rw [show zap h (za h.st i) (za h.st k)=false by
     unfold zap
     rw [←Bool.not_eq_true,List.all_eq_true]
     intro ha
     have:=ha (zy h.sw j) (z0e g)
     rw [nt hF] at this;cases this]
   ·have hF:(!(((zy h.sw j).fro==(za h.st i).id)==((zy h.sw j).too==(za h.st k).id)))=false:=hF
    refine VSt.go z7 false [] 200 rfl (AllP.c (by unfold inR;(try simp only [Int.ofNat_eq_natCast]);omega) AllP.n) ?_
    exact ⟨g,by (refine Vw.drop (by repeat (first | exact zo | refine zl rfl rfl rfl ?_ | refine z05 rfl ‹_› (zq _ ‹_›) ?_))),z0d hp (nf hF)⟩
  ·have g:j=h.sw.length:=by have:=nge g;omega
   subst g
   refine VSt.go z7 false [] 200 rfl AllP.n ?_
   refine EndsP.mk rfl rfl rfl ?_
   show bv true=bv _
   rw [show zap h (za h.st i) (za h.st k)=true from List.all_eq_true.2 fun t ht=>by
    obtain ⟨q,hq,rfl⟩:=z0u (d:=default) ht
    exact hp q hq]
end Go.Proofs.YtdpipdniklognaaGreat
/- Walks: the reference's Follows; both answer the same. -/
set_option maxRecDepth 100000
namespace Go.Proofs.YtdpipdniklognaaGreat
variable {r:Rm}
theorem z16 {b:Bool}:AImp (.lit b) (bv b):=fun _ _ _ _ _ h=>by
 cases h;exact .p (.bool _)
theorem zfC {w:List Sew} {id:Int} {j:Nat} (h1:(zy w j).fro=id) (hu:∀ i,i<w.length→(zy w i).fro=id→i=j):∀ k,j<k→k≤w.length→toK w id k=(zy w j).too
 | 0,h,_=>absurd h (Nat.not_lt_zero j)
 | k+1,h,hl=>by
  show (bif (zy w k).fro==id then (zy w k).too else toK w id k)=_
  by_cases e:(zy w k).fro=id
  ·rw [hu k hl e,h1,beq_self_eq_true];rfl
  ·rw [beq_false_of_ne e]
   have:j≠k:=fun g=>e (by rw [←g];exact h1)
   exact zfC h1 hu k (by omega) (by omega)
theorem zd2 {w:List Sew} {id:Int}:∀ k,k≤w.length→(∀ i,i<k→(zy w i).fro≠id)→toK w id k=0
 | 0,_,_=>rfl
 | k+1,hl,h=>by
  show (bif (zy w k).fro==id then (zy w k).too else toK w id k)=_
  rw [beq_false_of_ne (h k (Nat.lt_succ_self k))]
  exact zd2 k (by omega) fun i hi=>h i (by omega)
theorem zh6 {w:List Sew} {id:Int} {j:Nat} (h1:(zy w j).too=id) (hu:∀ i,i<w.length→(zy w i).too=id→i=j):∀ k,j<k→k≤w.length→frK w id k=(zy w j).fro
 | 0,h,_=>absurd h (Nat.not_lt_zero j)
 | k+1,h,hl=>by
  show (bif (zy w k).too==id then (zy w k).fro else frK w id k)=_
  by_cases e:(zy w k).too=id
  ·rw [hu k hl e,h1,beq_self_eq_true];rfl
  ·rw [beq_false_of_ne e]
   have:j≠k:=fun g=>e (by rw [←g];exact h1)
   exact zh6 h1 hu k (by omega) (by omega)
theorem zdK {w:List Sew} {id:Int}:∀ k,k≤w.length→(∀ i,i<k→(zy w i).too≠id)→frK w id k=0
 | 0,_,_=>rfl
 | k+1,hl,h=>by
  show (bif (zy w k).too==id then (zy w k).fro else frK w id k)=_
  rw [beq_false_of_ne (h k (Nat.lt_succ_self k))]
  exact zdK k (by omega) fun i hi=>h i (by omega)
theorem OkH.fro_lt {h:Hp} (n:OkH h):∀ {p q:Nat},p<q→q<h.sw.length→(zy h.sw p).fro<(zy h.sw q).fro:=by
 intro p q hpq hq
 obtain ⟨d,rfl⟩:∃ d,q=p+1+d:=⟨q - (p+1),by omega⟩
 clear hpq
 induction d with
 | zero=>exact n.froms (p+1) (by omega) hq
 | succ d ih =>
  have h1:=ih (by omega)
  have h2:=n.froms (p+1+d+1) (by omega) hq
  rw [show p+1+d+1 - 1=p+1+d by omega] at h2
  exact Int.lt_trans h1 h2
theorem OkH.fro_inj {h:Hp} (n:OkH h) {p q:Nat} (hp:p<h.sw.length) (hq:q<h.sw.length) (e:(zy h.sw p).fro=(zy h.sw q).fro):p=q:=by
 rcases Nat.lt_trichotomy p q with g | g | g
 ·have:=n.fro_lt g hq;omega
 ·exact g
 ·have:=n.fro_lt g hp;omega
theorem OkH.too_inj {h:Hp} (n:OkH h) {p q:Nat} (hp:p<h.sw.length) (hq:q<h.sw.length) (e:(zy h.sw p).too=(zy h.sw q).too):p=q:=by
 rcases Nat.lt_trichotomy p q with g | g | g
 ·exact absurd e (n.toos q hq p g)
 ·exact g
 ·exact absurd e.symm (n.toos p hp q g)
theorem OkH.pos {h:Hp} (n:OkH h) {j:Nat} (hj:j<h.sw.length):1≤(zy h.sw j).fro∧1≤(zy h.sw j).too:=by
 obtain ⟨a,b,ha,hb,e1,e2,_⟩:=n.sewn j hj
 have h1:=(wth_iff.1 (n.ok a ha).id).1
 have h2:=(wth_iff.1 (n.ok b hb).id).1
 exact ⟨by rw [←e1];exact h1,by rw [←e2];exact h2⟩
theorem zaj {h:Hp} (n:OkH h) (id:Int):(∃ j,j<h.sw.length∧(zy h.sw j).fro=id∧toS h id=(zy h.sw j).too)∨((∀ j,j<h.sw.length→(zy h.sw j).fro≠id)∧toS h id=0):=by
 by_cases c:∃ j,j<h.sw.length∧(zy h.sw j).fro=id
 ·obtain ⟨j,hj,e⟩:=c
  exact .inl ⟨j,hj,e,zfC e (fun i hi g=>n.fro_inj hi hj (g.trans e.symm)) _ hj (Nat.le_refl _)⟩
 ·have:∀ j,j<h.sw.length→(zy h.sw j).fro≠id:=fun j hj e=>c ⟨j,hj,e⟩
  exact .inr ⟨this,zd2 _ (Nat.le_refl _) this⟩
theorem zbb {h:Hp} (n:OkH h) (id:Int):(∃ j,j<h.sw.length∧(zy h.sw j).too=id∧frS h id=(zy h.sw j).fro)∨((∀ j,j<h.sw.length→(zy h.sw j).too≠id)∧frS h id=0):=by
 by_cases c:∃ j,j<h.sw.length∧(zy h.sw j).too=id
 ·obtain ⟨j,hj,e⟩:=c
  exact .inl ⟨j,hj,e,zh6 e (fun i hi g=>n.too_inj hi hj (g.trans e.symm)) _ hj (Nat.le_refl _)⟩
 ·have:∀ j,j<h.sw.length→(zy h.sw j).too≠id:=fun j hj e=>c ⟨j,hj,e⟩
  exact .inr ⟨this,zdK _ (Nat.le_refl _) this⟩
theorem zmc {h:Hp} (n:OkH h) {a b:Int}:(toS h a==0||toS h a==b)=true ↔ ∀ j,j<h.sw.length→(zy h.sw j).fro=a→(zy h.sw j).too=b:=by
 rw [Bool.or_eq_true,beq_iff_eq,beq_iff_eq]
 rcases zaj n a with ⟨j,hj,e,e2⟩ | ⟨g,e2⟩
 ·rw [e2]
  have:=(n.pos hj).2
  refine ⟨fun c i hi ei=>?_,fun c=>.inr (c j hj e)⟩
  rw [n.fro_inj hi hj (ei.trans e.symm)]
  rcases c with c | c
  ·omega
  ·exact c
 ·exact ⟨fun _ j hj e=>absurd e (g j hj),fun _=>.inl e2⟩
theorem zmS {h:Hp} (n:OkH h) {a b:Int}:(frS h b==0||frS h b==a)=true ↔ ∀ j,j<h.sw.length→(zy h.sw j).too=b→(zy h.sw j).fro=a:=by
 rw [Bool.or_eq_true,beq_iff_eq,beq_iff_eq]
 rcases zbb n b with ⟨j,hj,e,e2⟩ | ⟨g,e2⟩
 ·rw [e2]
  have:=(n.pos hj).1
  refine ⟨fun c i hi ei=>?_,fun c=>.inr (c j hj e)⟩
  rw [n.too_inj hi hj (ei.trans e.symm)]
  rcases c with c | c
  ·omega
  ·exact c
 ·exact ⟨fun _ j hj e=>absurd e (g j hj),fun _=>.inl e2⟩
theorem same_iff {h:Hp} {x y:Sht}:zap h x y=true ↔ ∀ j,j<h.sw.length→((zy h.sw j).fro=x.id ↔ (zy h.sw j).too=y.id):=by
 unfold zap
 rw [List.all_eq_true]
 have key:∀ t:Sew,((t.fro==x.id)==(t.too==y.id))=true ↔ (t.fro=x.id ↔ t.too=y.id):=fun t=>by
  rw [beq_iff_eq,Bool.eq_iff_iff,beq_iff_eq,beq_iff_eq]
 refine ⟨fun g j hj=>(key _).1 (g _ (z0e hj)),fun g t ht=>?_⟩
 obtain ⟨j,hj,rfl⟩:=z0u (d:=default) ht
 exact (key _).2 (g j hj)
theorem zme {h:Hp} (n:OkH h) (x y:Sht):((toS h x.id==0||toS h x.id==y.id)&&(frS h y.id==0||frS h y.id==x.id))=zap h x y:=by
 rw [Bool.eq_iff_iff,Bool.and_eq_true,zmc n,zmS n,same_iff]
 exact ⟨fun g j hj=>⟨g.1 j hj,g.2 j hj⟩,fun g=>⟨fun j hj=>(g j hj).1,fun j hj=>(g j hj).2⟩⟩
end Go.Proofs.YtdpipdniklognaaGreat
/- Walks: Found of the program. -/
set_option maxRecDepth 100000
namespace Go.Proofs.YtdpipdniklognaaGreat
variable {r:Rm}
theorem zjd (l:List Sht) (p:Int):(zJ l p).length=cnt l p:=rfl
end Go.Proofs.YtdpipdniklognaaGreat
/- Walks: Found of the reference. -/
set_option maxRecDepth 100000
namespace Go.Proofs.YtdpipdniklognaaGreat
variable {r:Rm}
theorem zaS {ty n:Nat} {f g:Nat→List PV} (h:∀ k,g k=f k):AImp (.p (.lst ty false (0+n) fun k=>g (0+k))) (.p (.lst ty false n f)):=by
 rw [Nat.zero_add];exact AImp.lst fun k _=>by rw [Nat.zero_add,h]
end Go.Proofs.YtdpipdniklognaaGreat
/- Plain: what the reference's Found puts in is what the program's does; walks: Same, SamePairs, SameHeap of equal ones. -/
set_option maxRecDepth 100000
namespace Go.Proofs.YtdpipdniklognaaGreat
variable {r:Rm}
theorem zgv {a:Int}:(!(a==a))=true→False:=fun h=>by rw [beq_self_eq_true] at h;exact absurd h (by decide)
theorem zfT {b1 b2:Bool} {l:List Int} (hn:l.length<9223372036854775808):VP (sE r) 25 [.p (z3E b1 l),.p (z3E b2 l)] (bv true):=by
 refine VP.of (fn:=Tryz.f25) z7 (zu rfl) (by kernel_rfl) rfl rfl rfl ?_
 refine VSt.go z7 false [] 200 rfl AllP.n ?_
 refine VSt.cond rfl (fun h=>(zgv (show (!(Int.ofNat l.length==Int.ofNat l.length))=true from h)).elim) (fun _=>?_)
 refine VSt.go z7 false [] 200 rfl AllP.n ?_
 refine z09 (ti:=5) l.length [0,1] (fun _=>[]) (fun _=>[]) (fun _=>True) rfl rfl z0l trivial trivial (fun k hk hp=>?_)
 refine VSt.go z7 false [] 200 rfl AllP.n ?_
 refine VSt.cond rfl (fun g=>?_) (fun g=>?_)
 ·have g:=nlt g
  refine VSt.go z7 false [] 200 rfl (AllP.c ‹_› (AllP.c rfl (AllP.c ‹_› (AllP.c rfl AllP.n)))) ?_
  refine VSt.cond rfl (fun h1=>?_) (fun _=>?_)
  ·exact (zgv (show (!(l.getD k 0==l.getD k 0))=true from h1)).elim
  ·refine VSt.go z7 false [] 200 rfl (AllP.c (by unfold inR;(try simp only [Int.ofNat_eq_natCast]);omega) AllP.n) ?_
   exact ⟨g,by (refine Vw.drop (by repeat (first | exact zo | refine zl rfl rfl rfl ?_ | refine z05 rfl ‹_› (zq _ ‹_›) ?_))),trivial⟩
 ·have g:k=l.length:=by have:=nge g;omega
  subst g
  refine VSt.go z7 false [] 200 rfl AllP.n ?_
  exact EndsP.mk rfl rfl rfl rfl
end Go.Proofs.YtdpipdniklognaaGreat
/- Sets of holes by bits; the orders of sheets by words and threads. -/
set_option maxRecDepth 100000
namespace Go.Proofs.YtdpipdniklognaaGreat
variable {r:Rm}
theorem zgV {m k:Nat} (hk:k<64) (hm:m<9223372036854775808):VP (sE r) 142 [iv (Int.ofNat m),nv k] (bv (m.testBit k)):=by
 refine VP.of (fn:=Tryz.f142) z7 (zu rfl) (by kernel_rfl) rfl rfl rfl ?_
 have h1:m >>> k<9223372036854775808:=by
  rw [Nat.shiftRight_eq_div_pow];exact Nat.lt_of_le_of_lt (Nat.div_le_self _ _) hm
 refine VSt.go z7 false [] 200 rfl ((AllP.c hk (AllP.c h1 (AllP.c (by decide) AllP.n)))) ?_
 refine EndsP.mk rfl rfl rfl ?_
 show bv _=bv _
 congr 1
 rw [Nat.testBit_eq_decide_div_mod_eq,Nat.shiftRight_eq_div_pow,Nat.and_one_is_mod,Bool.eq_iff_iff,beq_iff_eq,decide_eq_true_iff]
 simp only [Int.ofNat_eq_natCast]
 omega
theorem zf9 {m k:Nat} (hk:k<62) (hm:m<9223372036854775808):VP (sE r) 136 [iv (Int.ofNat m),nv k] (iv (Int.ofNat (m ||| 1 <<< k))):=by
 refine VP.of (fn:=Tryz.f136) z7 (zu rfl) (by kernel_rfl) rfl rfl rfl ?_
 have h1:1 <<< k<9223372036854775808:=by
  rw [Nat.one_shiftLeft];exact Nat.lt_of_lt_of_le (Nat.pow_lt_pow_right (by decide) hk) (by decide)
 refine VSt.go z7 false [] 200 rfl ((AllP.c (show k<64 by omega) (AllP.c h1 (AllP.c hm (AllP.c h1 AllP.n))))) ?_
 exact EndsP.mk rfl rfl rfl rfl
def z6p:List Nat→Nat
 | []=>0
 | i::l=>z6p l ||| 1 <<< i
theorem zbM:∀ (l:List Nat) (k:Nat),(z6p l).testBit k=l.contains k
 | [],k=>by show (0:Nat).testBit k=_;rw [Nat.zero_testBit];rfl
 | i::l,k=>by
  show (z6p l ||| 1 <<< i).testBit k=_
  rw [Nat.testBit_or,zbM l k,Nat.one_shiftLeft,Nat.testBit_two_pow,List.contains_cons,Bool.or_comm]
  congr 1
  rw [Bool.eq_iff_iff,decide_eq_true_iff,beq_iff_eq];exact eq_comm
theorem zfA:∀ {l:List Nat},(∀ i∈l,i<60)→z6p l<1152921504606846976
 | [],_=>by decide
 | i::l,h=>by
  show z6p l ||| 1 <<< i<2 ^ 60
  refine Nat.or_lt_two_pow (zfA fun k hk=>h k (List.mem_cons_of_mem _ hk)) ?_
  rw [Nat.one_shiftLeft]
  exact Nat.pow_lt_pow_right (by decide) (h i (List.mem_cons_self ..))
theorem zfz {l:List Nat} {k:Nat} (h:l.contains k=false):(z6p l ||| 1 <<< k) ^^^ ((z6p l ||| 1 <<< k) &&& 1 <<< k)=z6p l:=by
 refine Nat.eq_of_testBit_eq fun i=>?_
 rw [Nat.testBit_xor,Nat.testBit_and,Nat.testBit_or,Nat.one_shiftLeft,Nat.testBit_two_pow]
 by_cases e:k=i
 ·subst e
  rw [zbM,h,decide_eq_true rfl];rfl
 ·rw [decide_eq_false e];cases (z6p l).testBit i <;> rfl
def okR (h:Hp) (l:List Sht) (row:List Nat) (i:Nat):Bool:=!row.contains i&&match row with
 | []=>frS h (za l i).id==0
 | j::_=>zch h (za l j) (za l i)
def z6r (h:Hp) (l:List Sht):Nat→List Nat→List (List Nat)
 | 0,row=>[row]
 | f+1,row=>(List.range l.length).flatMap fun i=>bif okR h l row i then z6r h l f (i::row) else []
def z9K (h:Hp) (l:List Sht) (f:Nat) (row:List Nat):Nat→List (List Nat)
 | 0=>[]
 | k+1=>z9K h l f row k++bif okR h l row k then z6r h l f (k::row) else []
theorem z8I {α : Type} (g:Nat→List α):∀ n,(List.range (n+1)).flatMap g=(List.range n).flatMap g++g n:=fun n=>by
 rw [List.range_succ,List.flatMap_append];simp
theorem zdJ {h:Hp} {l:List Sht} {f:Nat} {row:List Nat}:z9K h l f row l.length=z6r h l (f+1) row:=by
 have:∀ k,z9K h l f row k=(List.range k).flatMap fun i=>bif okR h l row i then z6r h l f (i::row) else []:=fun k=>by
  induction k with
  | zero=>rfl
  | succ k ih=>rw [z8I,←ih];rfl
 exact this _
def z87 (h:Hp) (l:List Sht):List (List Nat):=z6r h l l.length []
def zP (l:List Sht) (row:List Nat):List Sht:=row.reverse.map fun i=>za l i
theorem z2x {l:List Sht} {row:List Nat}:(zP l row).length=row.length:=by unfold zP;rw [List.length_map,List.length_reverse]
theorem zat {l:List Sht} {row:List Nat} {i:Nat}:zP l (i::row)=zP l row++[za l i]:=by
 unfold zP;rw [List.reverse_cons,List.map_append];rfl
theorem z7c {l:List Sht} {row:List Nat} {i:Nat}:za (zP l (i::row)) row.length=za l i:=by
 rw [zat];unfold za
 rw [List.getD_eq_getElem?_getD,List.getElem?_append_right (by rw [z2x];exact Nat.le_refl _),z2x,Nat.sub_self];rfl
theorem z4V {l:List Sht} {row:List Nat} {i k:Nat} (hk:k<row.length):za (zP l (i::row)) k=za (zP l row) k:=by
 rw [zat];unfold za
 simp only [List.getD_eq_getElem?_getD]
 rw [List.getElem?_append_left (by rw [z2x];exact hk)]
end Go.Proofs.YtdpipdniklognaaGreat
/- Walks: the step of the iterator of rows. -/
set_option maxRecDepth 100000
namespace Go.Proofs.YtdpipdniklognaaGreat
variable {r:Rm}
theorem za4 (s:List Nat):(s.all (inB s))=true:=by
 rw [List.all_eq_true]
 intro x hx
 unfold inB
 rw [List.any_eq_true]
 exact ⟨x,hx,Nat.beq_refl x⟩
theorem z9j {n:Nat}:decide (0<Int.ofNat (n+1))=true:=decide_eq_true (by simp only [Int.ofNat_eq_natCast];omega)
theorem z2z {n:Nat}:Int.ofNat (n+1) - 1=Int.ofNat n:=by simp only [Int.ofNat_eq_natCast];omega
def znD (h:Hp) (b:Bool) (l:List Sht):AV:=.fn 151 [] [.ref 2 0,.p (.fp [z0W b l] 0),.ref 1 0,.p (.fp (eHp h) 0),.ref 3 0,.ref 4 0]
def z67 (h:Hp) (b:Bool) (l:List Sht) (lp:VB) (k u:Nat) (g:Nat→Sht) (X:VS):VS :=
 (0,lp)::(1,.cells [.yld 0] 141)::(2,.cells [.sl 5 6 0 k l.length 1] 22)::(3,.cells [iv (Int.ofNat u)] 113)::(4,.cells [znD h b l] 42)::(5,.arr l.length 6 (fun q=>zR (g q)) 74)::X
abbrev s5 (s:List Nat):List Nat:=0::1::2::3::4::5::s
theorem zca {h:Hp} {l:List Sht} {row:List Nat} {k:Nat} (e:row.contains k=true):okR h l row k=false:=by unfold okR;rw [e];rfl
theorem zgq {h:Hp} {l:List Sht} {k:Nat}:okR h l [] k=(frS h (za l k).id==0):=rfl
theorem z6A {h:Hp} {l:List Sht} {j:Nat} {row:List Nat} {k:Nat} (e:(j::row).contains k=false):okR h l (j::row) k=zch h (za l j) (za l k):=by unfold okR;rw [e];rfl
def zp5 (r:Rm) (h:Hp) (b:Bool) (l:List Sht) (N:Nat) (s:List Nat) (G:VK) (ps:List Tmp) (asg body:Code) (row:List Nat) (I:VS→Prop) (J:LExit→VS→Prop):zI:=fun e F2 L2 =>
 (e = .normal∧∃ F0 g X,Vw (sE r) (s5 s) F2 L2 F0 (z67 h b l (.loop .busy none G N ps asg body) row.length (z6p row) g X)∧(∀ k,k<row.length→g k=za (zP l row) k)∧I X) ∨
 (zh e=false∧∃ F0 g X G3,Vw (sE r) (s5 s) F2 L2 F0 (z67 h b l (.loop .busy none G3 N ps asg body) row.length (z6p row) g X)∧J e X)
def zoQ (r:Rm) (h:Hp) (b:Bool) (l:List Sht) (N:Nat) (s:List Nat) (G:VK) (ps:List Tmp) (asg body:Code) (row:List Nat) (I:VS→Prop) (J:LExit→VS→Prop):zI:=fun e F1 L1 =>
 e = .normal∧∃ G2,bk L1 0=some (.loop .ready none G2 N ps asg body)∧VSt.H (sE r) N (s5 s) none (zp5 r h b l N s G ps asg body row I J) (.code body [] F1 (up L1 0 (.loop .busy none G2 N ps asg body)))
def zow (h:Hp) (b:Bool) (l:List Sht) (N:Nat) (G:VK) (ps:List Tmp) (asg body:Code) (row:List Nat) (I:VS→Prop) (J:LExit→VS→Prop) (a:AV) (L':VS):Prop :=
 (a=bv true∧∃ g X,L'=z67 h b l (.loop .ready none G N ps asg body) row.length (z6p row) g X∧(∀ k,k<row.length→g k=za (zP l row) k)∧I X) ∨
 (a=bv false∧∃ g X e G3,zh e=false∧L'=z67 h b l (.loop .done (codeOf e) G3 N ps asg body) row.length (z6p row) g X∧J e X)
theorem zlM {s:Sht} {g:Nat→Sht} {m i:Nat}:(bif (0+m).ble i&&i.blt (0+m+1) then (fun k=>List.take 6 (List.drop (k*6) (zR s))) (i - (0+m)) else (fun q=>zR (g q)) i)=zR (if i=m then s else g i):=by
 rw [Nat.zero_add]
 by_cases e:i=m
 ·subst e
  rw [if_pos rfl,show Nat.ble i i=true from z3v (Nat.le_refl _),zhw (Nat.lt_succ_self i)]
  show List.take 6 (List.drop ((i - i)*6) (zR s))=_
  rw [Nat.sub_self];rfl
 ·rw [if_neg e]
  by_cases c:m≤i
  ·rw [zhx (show ¬ i<m+1 by omega),Bool.and_false];rfl
  ·rw [show Nat.ble m i=false by rw [←Bool.not_eq_true];exact fun h=>c (zB h)];rfl
theorem zdI {h:Hp} {l:List Sht} {f:Nat} {row:List Nat} {k:Nat}:∀ d,∃ t,z9K h l f row (k+d)=z9K h l f row k++t
 | 0=>⟨[],(List.append_nil _).symm⟩
 | d+1=>by
  obtain ⟨t,e⟩:=zdI (h:=h) (l:=l) (f:=f) (row:=row) (k:=k) d
  exact ⟨t++bif okR h l row (k+d) then z6r h l f ((k+d)::row) else [],by rw [←List.append_assoc,←e];rfl⟩
theorem zlj {h:Hp} {l:List Sht} {f:Nat} {row:List Nat} {k q:Nat} (hk:k<l.length) (hok:okR h l row k=true) (hq:q<(z6r h l f (k::row)).length):(z6r h l (f+1) row)[(z9K h l f row k).length+q]? = (z6r h l f (k::row))[q]? ∧ (z9K h l f row k).length+q<(z6r h l (f+1) row).length:=by
 obtain ⟨t,e⟩:=zdI (h:=h) (l:=l) (f:=f) (row:=row) (k:=k+1) (l.length - (k+1))
 rw [show k+1+(l.length - (k+1))=l.length by omega,zdJ] at e
 have e2:z9K h l f row (k+1)=z9K h l f row k++z6r h l f (k::row):=by
  show z9K h l f row k++(bif okR h l row k then z6r h l f (k::row) else [])=_
  rw [hok];rfl
 rw [e,e2,List.append_assoc]
 refine ⟨?_,?_⟩
 ·rw [List.getElem?_append_right (by omega),Nat.add_sub_cancel_left,List.getElem?_append_left hq]
 ·rw [List.length_append,List.length_append];omega
theorem ways {A B O T G:Prop} (hab:A∨B) (tail:O→T) (ha:A→(O→T)→G) (hb:B→(O→T)→G):G:=hab.elim (fun h=>ha h tail) fun h=>hb h tail
set_option maxHeartbeats 8000000 in
theorem step_ok {h:Hp} {b:Bool} {l:List Sht} (hl:l.length<60) (hw:h.sw.length<9223372036854775808) {N:Nat} {G G1:VK} {ps:List Tmp} {asg body:Code} (s:List Nat) (R:List (List Nat)) (I:Nat→VS→Prop) (J:LExit→VS→Prop)
  (hk:z6v N ps [.sl 5 6 0 l.length l.length 1] G=some G1)
  (hround:∀ q row g X,R[q]? = some row→row.length=l.length→(∀ k,k<row.length→g k=za (zP l row) k)→I q X→VSt.H (sE r) N (s5 s) none (zoQ r h b l N s G ps asg body row (I (q+1)) J) (.code asg [] G1 (z67 h b l (.loop .ready none G N ps asg body) row.length (z6p row) g X))) :
  ∀ f row o g X,f+row.length=l.length→(∀ i∈row,i<l.length)→(∀ k,k<(z6r h l f row).length→R[o+k]? = (z6r h l f row)[k]?)→(∀ k,k<row.length→g k=za (zP l row) k)→I o X →
   VC (sE r) (s5 s) 151 [.ref 2 0,.p (.fp [z0W b l] 0),.ref 1 0,.p (.fp (eHp h) 0),.ref 3 0,.ref 4 0] (z67 h b l (.loop .ready none G N ps asg body) row.length (z6p row) g X)
    (zow h b l N G ps asg body row (I (o+(z6r h l f row).length)) J):=by
 intro f
 induction f with
 | zero =>
  intro row o g X hn _ hR hg hI
  have hn:row.length=l.length:=by omega
  have hR0:R[o]? = some row:=hR 0 (by show 0<1;decide)
  have hrd:=hround o row g X hR0 hn hg hI
  refine z8T (fn:=Tryz.f151) z7 (zu rfl) (by kernel_rfl) rfl rfl ?_
  unfold z67 at hrd ⊢
  refine zf z7 false [] 200 rfl AllP.n ?_
  refine VSt.cond rfl (fun _=>?_) (fun q=>?_)
  ·refine zf z7 false [] 200 rfl AllP.n ?_
   refine VSt.yieldN (s5 s) rfl rfl rfl rfl rfl rfl rfl (by rw [hn];exact hk) rfl rfl (za4 _) (VW.mono hrd ?_)
   refine fun e F1 L1' h=>⟨h.1,h.2.elim fun G2 h2=>⟨G2,h2.1,VW.mono h2.2 ?_⟩⟩
   refine fun e F2 L2 h=>?_
   rcases h with ⟨he,F0,g',X',hv,hg',hI'⟩ | ⟨he,F0,g',X',G3,hv,hJ⟩
   ·subst he
    refine ⟨F0,_,none,G,hv,rfl,?_⟩
    refine zf z7 false [] 200 rfl AllP.n ?_
    exact ⟨rfl,_,rfl,.inl ⟨rfl,g',X',rfl,hg',hI'⟩⟩
   ·refine ⟨F0,_,none,G3,hv,rfl,?_⟩
    rw [he]
    refine zf z7 false [] 200 rfl AllP.n ?_
    exact ⟨rfl,_,rfl,.inr ⟨rfl,g',X',e,G3,he,rfl,hJ⟩⟩
  ·have q:(Int.ofNat row.length==Int.ofNat l.length)=false:=q
   rw [hn,beq_self_eq_true] at q;cases q
 | succ f ih =>
  intro row o g X hn hlt hR hg hI
  have hu:=zfA (l:=row) (fun i hi=>Nat.lt_trans (hlt i hi) hl)
  refine z8T (fn:=Tryz.f151) z7 (zu rfl) (by kernel_rfl) rfl rfl ?_
  unfold z67
  refine zf z7 false [] 200 rfl AllP.n ?_
  refine VSt.cond rfl (fun q=>?_) (fun q=>?_)
  ·have q:(Int.ofNat row.length==Int.ofNat l.length)=true:=q
   have:=eq_of_beq q
   simp only [Int.ofNat_eq_natCast] at this
   omega
  refine zf z7 false [] 200 rfl AllP.n ?_
  refine VSt.range z7 l.length (by omega) (fun k F L=>F=[(20,.p (z0W b l)),(0,.ref 2 0),(2,.ref 1 0),(3,.p (.fp (eHp h) 0)),(4,.ref 3 0),(5,.ref 4 0)]∧∃ g X,L=z67 h b l (.loop .ready none G N ps asg body) row.length (z6p row) g X∧(∀ k,k<row.length→g k=za (zP l row) k)∧I (o+(z9K h l f row k).length) X) rfl rfl
   ⟨[(20,.p (z0W b l)),(0,.ref 2 0),(2,.ref 1 0),(3,.p (.fp (eHp h) 0)),(4,.ref 3 0),(5,.ref 4 0)],_,(by (refine Vw.sub' (z6x (by repeat (first | exact z0p | refine z0A rfl ?_))))),rfl,g,X,rfl,hg,hI⟩ ?_ ?_
  ·rintro k F L hk1 ⟨rfl,g,X,rfl,hg,hI⟩
   unfold z67
   refine zf z7 false [24] 200 rfl AllP.n ?_
   refine VSt.fr 6 [(22,nv k),(20,.p (z0W b l))] [(22,nv k),(21,nv l.length),(20,.p (z0W b l)),(0,.ref 2 0),(2,.ref 1 0),(3,.p (.fp (eHp h) 0)),(4,.ref 3 0),(5,.ref 4 0)] 5 (by repeat (first | exact z0p | refine z0A rfl ?_)) (by repeat (first | exact z0p | refine z0A rfl ?_)) rfl rfl rfl ?_
   refine VSt.go z7 false [] 200 rfl (AllP.c ‹_› (AllP.c rfl AllP.n)) ?_
   refine ⟨rfl,[(7,nv k),(8,.p (.fp (zR (za l k)) 0))],(fun q=>zR (g q)),Vw.trans (zb 6 (zR (za l k)) rfl rfl) (Vw.kp [7,8] [(5,5)] rfl),rfl,?_⟩
   refine zf z7 false [] 200 rfl AllP.n ?_
   refine VSt.pc rfl rfl rfl rfl rfl rfl rfl rfl ((z97 (h:=h) (id:=(za l k).id) hw)) ?_
   refine zf z7 false [] 200 rfl AllP.n ?_
   refine z0b rfl rfl rfl rfl rfl rfl rfl rfl ((zgV (m:=z6p row) (k:=k) (by omega) (by omega))) ?_
   refine zf z7 false [] 200 rfl AllP.n ?_
   refine zi 37 (bv (row.contains k)) rfl (z00 (by rw [zbM])) ?_
   have hgk:z9K h l f row (k+1)=z9K h l f row k++bif okR h l row k then z6r h l f (k::row) else []:=rfl
   have hskip:okR h l row k=false→z9K h l f row (k+1)=z9K h l f row k:=fun e=>by rw [hgk,e];exact List.append_nil _
   refine zd 37 rfl (fun hc=>?_) (fun hc=>?_)
   ·have hc:row.contains k=true:=hc
    refine zf z7 false [] 200 rfl AllP.n ?_
    refine ⟨_,_,(by (refine Vw.sub' (z6x (by repeat (first | exact z0p | refine z0A rfl ?_))))),⟨rfl,g,X,rfl,hg,?_⟩,rfl⟩
    rw [hskip (zca hc)];exact hI
   have hc:row.contains k=false:=hc
   have hrc:row=[]∨∃ j row',row=j::row':=by cases row with
    | nil=>exact .inl rfl
    | cons j row'=>exact .inr ⟨j,row',rfl⟩
   refine ways (O:=okR h l row k=true) (T:=?T) hrc ?tail ?ha ?hb
   case ha =>
    intro hrow tail
    refine zf z7 false [] 200 rfl AllP.n ?_
    refine zi 41 (bv false) rfl (z00 (by rw [hrow];rfl)) ?_
    refine zd 41 rfl (fun q1=>?_) (fun q1=>?_)
    ·exact absurd q1 (by decide)
    refine zf z7 false [] 200 rfl AllP.n ?_
    refine zi 58 (bv true) rfl (z00 (by rw [hrow];rfl)) ?_
    refine zd 58 rfl (fun q2=>?_) (fun q2=>?_)
    rotate_left
    ·exact absurd q2 (by decide)
    refine zf z7 false [] 200 rfl AllP.n ?_
    refine VSt.cond rfl (fun q3=>?_) (fun q3=>?_)
    ·have q3:(!(frS h (za l k).id==0))=true:=q3
     refine zf z7 false [] 200 rfl AllP.n ?_
     refine ⟨_,_,(by (refine Vw.sub' (z6x (by repeat (first | exact z0p | refine z0A rfl ?_))))),⟨rfl,g,X,rfl,hg,?_⟩,rfl⟩
     rw [hskip (by rw [hrow,zgq];simpa using q3)];exact hI
    have q3:(!(frS h (za l k).id==0))=false:=q3
    refine zf z7 false [63] 200 rfl AllP.n ?_
    refine z8 (F0:=[(7,nv k),(8,.p (.fp (zR (za l k)) 0)),(22,nv k),(21,nv l.length),(20,.p (z0W b l)),(0,.ref 2 0),(2,.ref 1 0),(3,.p (.fp (eHp h) 0)),(4,.ref 3 0),(5,.ref 4 0)]) (by (refine Vw.sub' (z6x (by repeat (first | exact z0p | refine z0A rfl ?_))))) ?_
    exact tail (by rw [hrow,zgq];simpa using q3)
   case hb =>
    intro hx tail
    refine hx.elim fun j hx=>hx.elim fun row' hrow=>?_
    have hlr:row.length=row'.length+1:=by rw [hrow];rfl
    have hlen:row'.length<60:=by omega
    have hk2:row'.length<l.length:=by omega
    have hk3:row'.length<row.length:=by omega
    have hk4:0+row'.length<l.length:=by omega
    have hgj:g row'.length=za l j:=by rw [hg row'.length hk3,hrow,z7c]
    have hc2:(j::row').contains k=false:=by rw [←hrow];exact hc
    refine zf z7 false [] 200 rfl AllP.n ?_
    refine zi 41 (bv true) rfl (z00 (by rw [hlr,z9j])) ?_
    refine zd 41 rfl (fun q1=>?_) (fun q1=>?_)
    rotate_left
    ·exact absurd q1 (by decide)
    refine zf z7 false [46] 200 rfl AllP.n ?_
    refine zi 45 (nv (row'.length+1)) rfl (z0I (by rw [hlr])) ?_
    refine zf z7 false [47] 200 rfl (AllP.c (by unfold inR;(try simp only [Int.ofNat_eq_natCast]);omega) AllP.n) ?_
    refine zi 46 (nv row'.length) rfl (z0I z2z) ?_
    refine zf z7 false [49] 200 rfl (AllP.c ‹_› (AllP.c rfl (AllP.c ‹_› (AllP.c rfl AllP.n)))) ?_
    refine zi 48 (.agg ((zR (za l j)).map .p)) rfl (z00 (by rw [Nat.zero_add,hgj];rfl)) ?_
    refine zf z7 false [] 200 rfl AllP.n ?_
    refine z0b rfl rfl rfl rfl rfl rfl rfl rfl ((zmD (h:=h) (a:=za l j) (b:=za l k) hw)) ?_
    refine zf z7 false [] 200 rfl AllP.n ?_
    refine zd 54 rfl (fun q3=>?_) (fun q3=>?_)
    ·have q3:(!zch h (za l j) (za l k))=true:=q3
     refine zf z7 false [] 200 rfl AllP.n ?_
     refine ⟨_,_,(by (refine Vw.sub' (z6x (by repeat (first | exact z0p | refine z0A rfl ?_))))),⟨rfl,g,X,rfl,hg,?_⟩,rfl⟩
     rw [hskip (by rw [hrow,z6A hc2];simpa using q3)];exact hI
    have q3:(!zch h (za l j) (za l k))=false:=q3
    refine zf z7 false [] 200 rfl AllP.n ?_
    refine zi 58 (bv false) rfl (z00 (by rw [hlr];rfl)) ?_
    refine zd 58 rfl (fun q4=>?_) (fun q4=>?_)
    ·exact absurd q4 (by decide)
    refine zf z7 false [63] 200 rfl AllP.n ?_
    refine z8 (F0:=[(7,nv k),(8,.p (.fp (zR (za l k)) 0)),(22,nv k),(21,nv l.length),(20,.p (z0W b l)),(0,.ref 2 0),(2,.ref 1 0),(3,.p (.fp (eHp h) 0)),(4,.ref 3 0),(5,.ref 4 0)]) (by (refine Vw.sub' (z6x (by repeat (first | exact z0p | refine z0A rfl ?_))))) ?_
    exact tail (by rw [hrow,z6A hc2];simpa using q3)
   intro hok
   refine zf z7 false [65] 200 rfl AllP.n ?_
   refine VSt.fr 2 [(63,.sl 5 6 0 row.length l.length 1),(64,.agg ((zR (za l k)).map .p))] [(7,nv k),(22,nv k),(21,nv l.length),(20,.p (z0W b l)),(0,.ref 2 0),(2,.ref 1 0),(3,.p (.fp (eHp h) 0)),(4,.ref 3 0),(5,.ref 4 0)] 5 (by repeat (first | exact z0p | refine z0A rfl ?_)) (by repeat (first | exact z0p | refine z0A rfl ?_)) rfl rfl rfl ?_
   have hroom:row.length+1≤l.length:=by omega
   refine VSt.go z7 false [] 200 rfl (AllP.c (by omega) (AllP.c (by omega) (AllP.c (fun q hq=>match q,hq with | 0,_=>rfl) (AllP.c rfl (AllP.c rfl (AllP.c ‹_› (AllP.c (by omega) AllP.n))))))) ?_
   refine ⟨rfl,[(66,.sl 5 6 0 (row.length+1) l.length 1)],(fun q=>zR (if q=row.length then za l k else g q)),z14 (ps:=[(5,5)]) ⟨rfl,rfl,(by repeat (first | exact zo | refine zl rfl rfl rfl ?_)),_,rfl,⟨rfl,BImp.arr (fun q _=>zlM),trivial⟩⟩,rfl,?_⟩
   refine zf z7 false [] 200 rfl AllP.n ?_
   refine VSt.pc rfl rfl rfl rfl rfl rfl rfl rfl ((zf9 (m:=z6p row) (k:=k) (by omega) (by omega))) ?_
   refine zf z7 false [71] 200 rfl AllP.n ?_
   have hlt':∀ i∈k::row,i<l.length:=fun i hi=>by
    rcases List.mem_cons.1 hi with rfl | hi
    ·exact hk1
    ·exact hlt i hi
   have hR':∀ q,q<(z6r h l f (k::row)).length→R[o+(z9K h l f row k).length+q]? = (z6r h l f (k::row))[q]? :=fun q hq=>by
    obtain ⟨e1,e2⟩:=zlj (h:=h) (f:=f) (row:=row) hk1 hok hq
    rw [Nat.add_assoc,hR _ e2,e1]
   have hg':∀ q,q<(k::row).length→(if q=row.length then za l k else g q)=za (zP l (k::row)) q:=fun q hq=>by
    have hq:q<row.length+1:=hq
    by_cases c:q=row.length
    ·rw [if_pos c,c,z7c]
    ·rw [if_neg c,hg q (by omega),z4V (by omega)]
   have hb1:1 <<< k<9223372036854775808:=by rw [Nat.one_shiftLeft];exact Nat.lt_of_lt_of_le (Nat.pow_lt_pow_right (by decide) (show k<62 by omega)) (by decide)
   have hb2:z6p (k::row)<9223372036854775808:=Nat.lt_trans (zfA (fun i hi=>Nat.lt_trans (hlt' i hi) hl)) (by decide)
   have hC:=ih (k::row) (o+(z9K h l f row k).length) (fun q=>if q=row.length then za l k else g q) X (by show f+(row.length+1)=_;omega) hlt' hR' hg' hI
   have hgn:z9K h l f row (k+1)=z9K h l f row k++z6r h l f (k::row):=by rw [hgk,hok];rfl
   refine VSt.ci (s5 s) rfl rfl rfl rfl rfl rfl rfl (za4 _) hC (fun a L' ha=>?_)
   rcases ha with ⟨rfl,g1,X1,rfl,hg1,hI1⟩ | ⟨rfl,g1,X1,e,G3,he,rfl,hJ1⟩
   ·unfold z67
    refine zf z7 false [75] 200 rfl AllP.n ?_
    refine z03 74 (nv (row.length+1)) rfl (AImp.refl _) ?_
    refine zf z7 false [76] 200 rfl (AllP.c (by unfold inR;(try simp only [Int.ofNat_eq_natCast]);omega) AllP.n) ?_
    refine z03 75 (nv row.length) rfl (z0I z2z) ?_
    refine zf z7 false [] 200 rfl (AllP.c (by omega) (AllP.c (by omega) (AllP.c (by omega) (AllP.c rfl (AllP.c (by omega) (AllP.c ‹_› (AllP.c ‹_› (AllP.c ‹_› AllP.n)))))))) ?_
    refine z01 (Vw.imp (L':=z67 h b l (.loop .ready none G N ps asg body) row.length (z6p row) g1 X1) ⟨rfl,BImp.refl _,rfl,BImp.refl _,rfl,BImp.refl _,rfl,BImp.cell1 (z0I (congrArg Int.ofNat (zfz hc))),rfl,BImp.refl _,rfl,BImp.refl _,LImp.refl _⟩) ?_
    unfold z67
    refine VSt.cond rfl (fun q=>absurd q (by decide)) (fun _=>?_)
    refine zf z7 false [] 200 rfl AllP.n ?_
    refine ⟨_,_,(by (refine Vw.sub' (z6x (by repeat (first | exact z0p | refine z0A rfl ?_))))),⟨rfl,g1,X1,rfl,fun q hq=>?_,?_⟩,rfl⟩
    ·rw [hg1 q (Nat.lt_succ_of_lt hq),z4V hq]
    ·rw [hgn,List.length_append,←Nat.add_assoc];exact hI1
   ·unfold z67
    refine zf z7 false [75] 200 rfl AllP.n ?_
    refine z03 74 (nv (row.length+1)) rfl (AImp.refl _) ?_
    refine zf z7 false [76] 200 rfl (AllP.c (by unfold inR;(try simp only [Int.ofNat_eq_natCast]);omega) AllP.n) ?_
    refine z03 75 (nv row.length) rfl (z0I z2z) ?_
    refine zf z7 false [] 200 rfl (AllP.c (by omega) (AllP.c (by omega) (AllP.c (by omega) (AllP.c rfl (AllP.c (by omega) (AllP.c ‹_› (AllP.c ‹_› (AllP.c ‹_› AllP.n)))))))) ?_
    refine z01 (Vw.imp (L':=z67 h b l (.loop .done (codeOf e) G3 N ps asg body) row.length (z6p row) g1 X1) ⟨rfl,BImp.refl _,rfl,BImp.refl _,rfl,BImp.refl _,rfl,BImp.cell1 (z0I (congrArg Int.ofNat (zfz hc))),rfl,BImp.refl _,rfl,BImp.refl _,LImp.refl _⟩) ?_
    unfold z67
    refine VSt.cond rfl (fun _=>?_) (fun q=>absurd q (by decide))
    refine zf z7 false [] 200 rfl AllP.n ?_
    exact ⟨rfl,_,rfl,.inr ⟨rfl,g1,X1,e,G3,he,rfl,hJ1⟩⟩
  ·rintro F L ⟨rfl,g,X,rfl,hg,hI⟩
   unfold z67
   refine zf z7 false [] 200 rfl AllP.n ?_
   refine ⟨rfl,_,rfl,.inl ⟨rfl,g,X,rfl,hg,?_⟩⟩
   rw [←zdJ];exact hI
end Go.Proofs.YtdpipdniklognaaGreat
/- Walks: the iterator of rows. -/
set_option maxRecDepth 100000
namespace Go.Proofs.YtdpipdniklognaaGreat
variable {r:Rm}
theorem rows_ok {h:Hp} {b:Bool} {l:List Sht}:VP (sE r) 119 [.agg ((eHp h).map .p),.p (z0W b l)] (.fn 150 [] [.p (.fp [z0W b l] 0),.p (.fp (eHp h) 0)]):=by
 refine VP.of (fn:=Tryz.f119) z7 (zu rfl) (by kernel_rfl) rfl rfl rfl ?_
 refine VSt.go z7 false [4] 200 rfl AllP.n ?_
 refine z8 (zb 0 (eHp h) rfl rfl) ?_
 refine z8 (zb 1 [z0W b l] rfl rfl) ?_
 refine VSt.go z7 false [] 200 rfl AllP.n ?_
 exact EndsP.mk rfl rfl rfl rfl
def zox (h:Hp) (b:Bool) (l:List Sht) (N:Nat) (G:VK) (ps:List Tmp) (asg body:Code) (I:VS→Prop) (J:LExit→VS→Prop) (L':VS):Prop :=
 (∃ g X,L'=z67 h b l (.loop .ready none G N ps asg body) 0 0 g X∧I X)∨(∃ g X e G3,zh e=false∧L'=z67 h b l (.loop .done (codeOf e) G3 N ps asg body) 0 0 g X∧J e X)
set_option maxHeartbeats 4000000 in
theorem zig {h:Hp} {b:Bool} {l:List Sht} (hl:l.length<60) (hw:h.sw.length<9223372036854775808) {N:Nat} {G G1:VK} {ps:List Tmp} {asg body:Code} {X:VS} (s:List Nat) (I:Nat→VS→Prop) (J:LExit→VS→Prop) (hX:∀ i,i<10→bk X i=none) (hI:I 0 X)
  (hk:z6v N ps [.sl 5 6 0 l.length l.length 1] G=some G1)
  (hround:∀ q row g X,(z87 h l)[q]? = some row→row.length=l.length→(∀ k,k<row.length→g k=za (zP l row) k)→I q X→VSt.H (sE r) N (s5 s) none (zoQ r h b l N s G ps asg body row (I (q+1)) J) (.code asg [] G1 (z67 h b l (.loop .ready none G N ps asg body) row.length (z6p row) g X))) :
  VC (sE r) (s5 s) 150 [.yld 0,.p (.fp [z0W b l] 0),.p (.fp (eHp h) 0)] ((0,.loop .ready none G N ps asg body)::X) (fun _ L'=>zox h b l N G ps asg body (I (z87 h l).length) J L'):=by
 refine z8T (fn:=Tryz.f150) z7 (zu rfl) (by kernel_rfl) rfl rfl ?_
 refine zf z7 false [3] 200 rfl trivial ?_
 refine ze1 1 (hX 1 (by decide)) rfl rfl rfl rfl rfl ?_
 refine zf z7 false [9] 200 rfl AllP.n ?_
 refine zhM 5 z7 (hX 5 (by decide)) rfl rfl rfl rfl rfl rfl rfl (Nat.zero_le _) (by omega) ?_
 refine z61 2 z7 (hX 2 (by decide)) rfl rfl rfl rfl ?_
 refine zf z7 false [5] 200 rfl AllP.n ?_
 refine z61 3 z7 (hX 3 (by decide)) rfl rfl rfl rfl ?_
 refine zf z7 false [6] 200 rfl AllP.n ?_
 refine z61 4 z7 (hX 4 (by decide)) rfl rfl rfl rfl ?_
 refine zf z7 false [12] 200 rfl AllP.n ?_
 refine z8 (Vw.perm (L':=z67 h b l (.loop .ready none G N ps asg body) 0 0 (fun _=>default) X) fun i=>?_) ?_
 ·match i with
  | 0=>rfl
  | 1=>rfl
  | 2=>rfl
  | 3=>rfl
  | 4=>rfl
  | 5=>rfl
  | n+6=>rfl
 refine VSt.ci (s5 s) rfl rfl rfl rfl rfl rfl rfl (za4 _) (step_ok hl hw s (z87 h l) I J hk hround l.length [] 0 (fun _=>default) X rfl (fun i hi=>by cases hi) (fun k _=>by rw [Nat.zero_add];rfl) (fun k hk=>absurd hk (Nat.not_lt_zero k)) hI) (fun a L' ha=>?_)
 rcases ha with ⟨rfl,g1,X1,rfl,_,hI1⟩ | ⟨rfl,g1,X1,e,G3,he,rfl,hJ1⟩
 ·refine zf z7 false [] 200 rfl AllP.n ?_
  refine ⟨rfl,_,rfl,.inl ⟨g1,X1,rfl,?_⟩⟩
  rw [Nat.zero_add] at hI1;exact hI1
 ·refine zf z7 false [] 200 rfl AllP.n ?_
  exact ⟨rfl,_,rfl,.inr ⟨g1,X1,e,G3,he,rfl,hJ1⟩⟩
end Go.Proofs.YtdpipdniklognaaGreat
/- Walks: threads, span, broken. -/
set_option maxRecDepth 100000
namespace Go.Proofs.YtdpipdniklognaaGreat
variable {r:Rm}
def okT (h:Hp) (l:List Sht) (k:Nat):Bool:=toS h (za l k).id==0||(decide (k+1<l.length)&&(za l (k+1)).id==toS h (za l k).id)
def zbO (h:Hp) (l:List Sht):Bool:=zf5 (okT h l) l.length
set_option maxHeartbeats 4000000 in
theorem zea {h:Hp} {b:Bool} {l:List Sht} (hl:l.length≤1000) (hw:h.sw.length<9223372036854775808):VP (sE r) 120 [.agg ((eHp h).map .p),.p (z0W b l)] (bv (zbO h l)):=by
 refine VP.of (fn:=Tryz.f120) z7 (zu rfl) (by kernel_rfl) rfl rfl rfl ?_
 refine VSt.go z7 false [] 200 rfl AllP.n ?_
 refine z01 (zb 0 (eHp h) rfl rfl) ?_
 refine z0J z7 l.length (by omega) [1,2,9] (fun _=>[]) (fun _=>[]) (fun k=>∀ i,i<k→okT h l i=true) rfl rfl rfl (fun _=>rfl) rfl rfl z0l trivial (fun i hi=>absurd hi (Nat.not_lt_zero i)) (fun k hk hp=>?_) (fun hp=>?_)
 ·refine VSt.go z7 false [] 200 rfl (AllP.c ‹_› (AllP.c rfl AllP.n)) ?_
  refine VSt.pc rfl rfl rfl rfl rfl rfl rfl rfl ((z97 (h:=h) (id:=(za l k).id) hw)) ?_
  refine VSt.go z7 false [] 200 rfl AllP.n ?_
  refine zg 25 rfl (fun h1=>?_) (fun h1=>?_)
  ·have h1:(!(toS h (za l k).id==0))=true:=h1
   have h1':(toS h (za l k).id==0)=false:=by simpa using h1
   refine VSt.go z7 false [30] 200 rfl (AllP.c (by unfold inR;(try simp only [Int.ofNat_eq_natCast]);omega) AllP.n) ?_
   refine z03 27 (nv (k+1)) rfl (AImp.refl _) ?_
   refine VSt.go z7 false [] 200 rfl AllP.n ?_
   refine zg 31 rfl (fun h2=>?_) (fun h2=>?_)
   ·have h2:(Int.ofNat (k+1)==Int.ofNat l.length)=true:=h2
    have e:k+1=l.length:=by
     have:=eq_of_beq h2
     simp only [Int.ofNat_eq_natCast] at this
     omega
    refine VSt.go z7 false [] 200 rfl AllP.n ?_
    refine EndsP.mk rfl rfl rfl ?_
    show bv false=bv _
    rw [show zbO h l=false from z4n hk (by unfold okT;rw [h1',decide_eq_false (by omega)];rfl)]
   ·have h2:(Int.ofNat (k+1)==Int.ofNat l.length)=false:=h2
    have e:k+1<l.length:=by
     have h3:k+1≠l.length:=fun g=>by rw [g,beq_self_eq_true] at h2;cases h2
     omega
    refine VSt.go z7 false [35] 200 rfl (AllP.c (by unfold inR;(try simp only [Int.ofNat_eq_natCast]);omega) AllP.n) ?_
    refine z03 34 (nv (k+1)) rfl (AImp.refl _) ?_
    refine VSt.go z7 false [] 200 rfl (AllP.c ‹_› (AllP.c rfl AllP.n)) ?_
    refine VSt.cond rfl (fun h3=>?_) (fun h3=>?_)
    ·have h3:(!((za l (k+1)).id==toS h (za l k).id))=true:=h3
     refine VSt.go z7 false [] 200 rfl AllP.n ?_
     refine EndsP.mk rfl rfl rfl ?_
     show bv false=bv _
     rw [show zbO h l=false from z4n hk (by unfold okT;rw [h1',show ((za l (k+1)).id==toS h (za l k).id)=false by simpa using h3,Bool.and_false];rfl)]
    ·have h3:(!((za l (k+1)).id==toS h (za l k).id))=false:=h3
     refine VSt.go z7 false [] 200 rfl AllP.n ?_
     exact ⟨by (refine Vw.drop (by repeat (first | exact zo | refine zl rfl rfl rfl ?_ | refine z05 rfl ‹_› (zq _ ‹_›) ?_))),z0d hp (by unfold okT;rw [show ((za l (k+1)).id==toS h (za l k).id)=true by simpa using h3,decide_eq_true e];simp)⟩
  ·have h1:(!(toS h (za l k).id==0))=false:=h1
   refine VSt.go z7 false [] 200 rfl AllP.n ?_
   exact ⟨by (refine Vw.drop (by repeat (first | exact zo | refine zl rfl rfl rfl ?_ | refine z05 rfl ‹_› (zq _ ‹_›) ?_))),z0d hp (by unfold okT;rw [show (toS h (za l k).id==0)=true by simpa using h1];rfl)⟩
 ·refine VSt.go z7 false [] 200 rfl AllP.n ?_
  refine EndsP.mk rfl rfl rfl ?_
  show bv true=bv _
  rw [show zbO h l=true from allB_iff.2 hp]
structure BitS (s:Sht):Prop where
 h1:s.holes=Int.ofNat s.holes.toNat
 h2:s.holes.toNat≤4095
 u1:s.unsure=Int.ofNat s.unsure.toNat
 u2:s.unsure.toNat≤4095
theorem OkS.bit {s:Sht} (h:OkS s):BitS s:=by
 have a:=wth_iff.1 h.holes
 have b:=wth_iff.1 h.unsure
 refine ⟨?_,?_,?_,?_⟩
 ·simp only [Int.ofNat_eq_natCast];omega
 ·omega
 ·simp only [Int.ofNat_eq_natCast];omega
 ·omega
def zU (s:Sht) (w:Nat):Bool:=s.holes.toNat.testBit w
def zgX (s:Sht) (w:Nat):Bool:=(s.holes.toNat ||| s.unsure.toNat).testBit w
def spF (l:List Sht) (w:Nat):Nat→Int
 | 0=> -1
 | k+1=>bif zU (za l k) w then (bif decide (spF l w k<0) then Int.ofNat k else spF l w k) else spF l w k
def spL (l:List Sht) (w:Nat):Nat→Int
 | 0=> -1
 | k+1=>bif zU (za l k) w then Int.ofNat k else spL l w k
set_option maxHeartbeats 4000000 in
theorem zfJ {b:Bool} {l:List Sht} {w:Nat} (hl:l.length≤1000000) (hw:w<64) (hb:∀ k,k<l.length→BitS (za l k)):VP (sE r) 105 [.p (z0W b l),nv w] (.agg [iv (spF l w l.length),iv (spL l w l.length)]):=by
 refine VP.of (fn:=Tryz.f105) z7 (zu rfl) (by kernel_rfl) rfl rfl rfl ?_
 refine VSt.go z7 false [] 200 rfl AllP.n ?_
 refine z0J z7 l.length (by omega) [1,4,5,9] (fun _=>[]) (fun k=>[(1,.cells [iv (spF l w k),iv (spL l w k)] 32),(0,.cells [iv 0,iv 0] 32)]) (fun _=>True) rfl rfl rfl (fun _=>rfl) rfl rfl z0l (LImp.refl _) trivial (fun k hk _=>?_) (fun _=>?_)
 ·have hB:=hb k hk
  have hh:=hB.h2
  have hm:(za l k).holes.toNat<9223372036854775808:=by omega
  refine VSt.go z7 false [] 200 rfl (AllP.c ‹_› (AllP.c rfl AllP.n)) ?_
  refine z03 17 (iv (Int.ofNat (za l k).holes.toNat)) rfl (z00 (congrArg iv hB.h1)) ?_
  refine VSt.pc rfl rfl rfl rfl rfl rfl rfl rfl ((zgV (m:=(za l k).holes.toNat) (k:=w) hw hm)) ?_
  refine VSt.go z7 false [] 200 rfl AllP.n ?_
  refine VSt.cond rfl (fun h1=>?_) (fun h1=>?_)
  ·have h1:zU (za l k) w=false:=by simpa using (show (!zU (za l k) w)=true from h1)
   have e1:spF l w (k+1)=spF l w k:=by show (bif zU (za l k) w then _ else _)=_;rw [h1];rfl
   have e2:spL l w (k+1)=spL l w k:=by show (bif zU (za l k) w then _ else _)=_;rw [h1];rfl
   refine VSt.go z7 false [] 200 rfl AllP.n ?_
   refine ⟨?_,trivial⟩
   dsimp only
   rw [e1,e2]
   refine z14 (ps:=[(1,1),(0,0)]) ⟨rfl,rfl,(by repeat (first | exact zo | refine zl rfl rfl rfl ?_)),_,rfl,(⟨rfl,BImp.refl _,rfl,BImp.refl _,trivial⟩)⟩
  ·have h1:zU (za l k) w=true:=by simpa using (show (!zU (za l k) w)=false from h1)
   have e2:spL l w (k+1)=Int.ofNat k:=by show (bif zU (za l k) w then _ else _)=_;rw [h1];rfl
   refine VSt.go z7 false [] 200 rfl AllP.n ?_
   refine VSt.cond rfl (fun h2=>?_) (fun h2=>?_)
   ·have h2:decide (spF l w k<0)=true:=h2
    have e1:spF l w (k+1)=Int.ofNat k:=by show (bif zU (za l k) w then (bif decide (spF l w k<0) then _ else _) else _)=_;rw [h1,h2];rfl
    refine VSt.go z7 false [] 200 rfl AllP.n ?_
    refine ⟨?_,trivial⟩
    dsimp only
    rw [e1,e2]
    refine z14 (ps:=[(1,1),(0,0)]) ⟨rfl,rfl,(by repeat (first | exact zo | refine zl rfl rfl rfl ?_)),_,rfl,(⟨rfl,BImp.refl _,rfl,BImp.refl _,trivial⟩)⟩
   ·have h2:decide (spF l w k<0)=false:=h2
    have e1:spF l w (k+1)=spF l w k:=by show (bif zU (za l k) w then (bif decide (spF l w k<0) then _ else _) else _)=_;rw [h1,h2];rfl
    refine VSt.go z7 false [] 200 rfl AllP.n ?_
    refine ⟨?_,trivial⟩
    dsimp only
    rw [e1,e2]
    refine z14 (ps:=[(1,1),(0,0)]) ⟨rfl,rfl,(by repeat (first | exact zo | refine zl rfl rfl rfl ?_)),_,rfl,(⟨rfl,BImp.refl _,rfl,BImp.refl _,trivial⟩)⟩
 ·refine VSt.go z7 false [] 200 rfl AllP.n ?_
  exact EndsP.mk rfl rfl rfl rfl
theorem zkm (l:List Sht) (w:Nat):∀ k,(spF l w k = -1∧spL l w k = -1∧∀ i,i<k→zU (za l i) w=false) ∨
  ∃ a b,spF l w k=Int.ofNat a∧spL l w k=Int.ofNat b∧a≤b∧b<k∧zU (za l a) w=true∧zU (za l b) w=true∧(∀ i,i<a→zU (za l i) w=false)∧∀ i,b<i→i<k→zU (za l i) w=false
 | 0=>.inl ⟨rfl,rfl,none0⟩
 | k+1=>by
  have ih:=zkm l w k
  have e1:spF l w (k+1)=bif zU (za l k) w then (bif decide (spF l w k<0) then Int.ofNat k else spF l w k) else spF l w k:=rfl
  have e2:spL l w (k+1)=bif zU (za l k) w then Int.ofNat k else spL l w k:=rfl
  cases hh:zU (za l k) w with
  | false =>
   rw [hh] at e1 e2
   rcases ih with ⟨h1,h2,h3⟩ | ⟨a,b,h1,h2,h3,h4,h5,h6,h7,h8⟩
   ·exact .inl ⟨e1.trans h1,e2.trans h2,z0d h3 hh⟩
   ·refine .inr ⟨a,b,e1.trans h1,e2.trans h2,h3,by omega,h5,h6,h7,fun i hi hk=>?_⟩
    by_cases c:i=k
    ·rw [c];exact hh
    ·exact h8 i hi (by omega)
  | true =>
   rw [hh] at e1 e2
   rcases ih with ⟨h1,h2,h3⟩ | ⟨a,b,h1,h2,h3,h4,h5,h6,h7,h8⟩
   ·rw [h1] at e1
    exact .inr ⟨k,k,e1,e2,Nat.le_refl _,Nat.lt_succ_self _,hh,hh,h3,fun i hi hk=>by omega⟩
   ·rw [h1,decide_eq_false (show ¬ Int.ofNat a<0 by simp only [Int.ofNat_eq_natCast];omega)] at e1
    exact .inr ⟨a,k,e1,e2,by omega,Nat.lt_succ_self _,h5,hh,h7,fun i hi hk=>by omega⟩
def z5f (l:List Sht) (w a:Nat):Nat→Bool
 | 0=>false
 | j+1=>z5f l w a j || !zgX (za l (a+j)) w
def brB (l:List Sht) (w:Nat):Bool:=decide (0≤spF l w l.length)&&z5f l w (spF l w l.length).toNat ((spL l w l.length).toNat+1 - (spF l w l.length).toNat)
def zO (l:List Sht):Nat→Nat
 | 0=>0
 | w+1=>bif brB l w then zO l w ||| 1 <<< w else zO l w
theorem zdU (l:List Sht):∀ w,zO l w<2 ^ w
 | 0=>by show 0<2 ^ 0;decide
 | w+1=>by
  have ih:=zdU l w
  have h:2 ^ w<2 ^ (w+1):=Nat.pow_lt_pow_right (by decide) (Nat.lt_succ_self w)
  show (bif brB l w then zO l w ||| 1 <<< w else zO l w)<_
  cases brB l w with
  | true=>exact Nat.or_lt_two_pow (Nat.lt_trans ih h) (by rw [Nat.one_shiftLeft];exact h)
  | false=>exact Nat.lt_trans ih h
set_option maxHeartbeats 8000000 in
theorem zhv {b:Bool} {l:List Sht} (hl:l.length≤1000000) (hb:∀ k,k<l.length→BitS (za l k)):VP (sE r) 121 [.p (z0W b l)] (iv (Int.ofNat (zO l 12))):=by
 refine VP.of (fn:=Tryz.f121) z7 (zu rfl) (by kernel_rfl) rfl rfl rfl ?_
 refine VSt.go z7 false [] 200 rfl AllP.n ?_
 refine z09 (ti:=8) 12 [0] (fun w=>[(3,iv (Int.ofNat (zO l w)))]) (fun _=>[]) (fun _=>True) rfl rfl (z0K rfl (AImp.refl _) z0l) trivial trivial (fun w hw _=>?_)
 refine VSt.go z7 false [] 200 rfl AllP.n ?_
 refine VSt.cond rfl (fun g=>?_) (fun g=>?_)
 ·have g:=nlt (n:=12) g
  refine VSt.go z7 false [] 200 rfl AllP.n ?_
  refine VSt.pc rfl rfl rfl rfl rfl rfl rfl rfl ((zfJ (w:=w) hl (by omega) hb)) ?_
  refine VSt.go z7 false [] 200 rfl AllP.n ?_
  refine VSt.cond rfl (fun h1=>?_) (fun h1=>?_)
  ·have h1:decide (spF l w l.length<0)=true:=h1
   have e1:zO l (w+1)=zO l w:=by
    have h2:=of_decide_eq_true h1
    show (bif brB l w then _ else _)=_
    rw [show brB l w=false by unfold brB;rw [decide_eq_false (by omega)];rfl];rfl
   refine VSt.go z7 false [] 200 rfl (AllP.c (by unfold inR;(try simp only [Int.ofNat_eq_natCast]);omega) AllP.n) ?_
   refine ⟨g,?_,trivial⟩
   dsimp only
   rw [e1]
   (refine Vw.drop (by repeat (first | exact zo | refine zl rfl rfl rfl ?_ | refine z05 rfl ‹_› (zq _ ‹_›) ?_)))
  have h1:decide (spF l w l.length<0)=false:=h1
  have h2:=of_decide_eq_false h1
  rcases zkm l w l.length with ⟨h3,_⟩ | ⟨a,c,h3,h4,h5,h6,h7,h8,h9,h10⟩
  ·exact absurd h3 (by omega)
  have hlt:zO l w<9223372036854775808:=Nat.lt_of_lt_of_le (zdU l w) (Nat.le_trans (Nat.pow_le_pow_right (by decide) (show w≤12 by omega)) (by decide))
  have e1:zO l (w+1)=bif z5f l w a (c+1 - a) then zO l w ||| 1 <<< w else zO l w:=by
   show (bif brB l w then _ else _)=_
   unfold brB
   rw [h3,h4,decide_eq_true (show 0≤Int.ofNat a by simp only [Int.ofNat_eq_natCast];omega)]
   rfl
  refine VSt.go z7 false [20] 200 rfl AllP.n ?_
  refine z03 19 (nv a) rfl (z0I h3) ?_
  refine VSt.go z7 false [22] 200 rfl AllP.n ?_
  refine z03 21 (nv c) rfl (z0I h4) ?_
  refine VSt.go z7 false [23] 200 rfl (AllP.c (by unfold inR;(try simp only [Int.ofNat_eq_natCast]);omega) AllP.n) ?_
  refine z03 22 (nv (c+1)) rfl (AImp.refl _) ?_
  refine VSt.go z7 false [] 200 rfl (AllP.c (by omega) (AllP.c ‹_› (AllP.c (fun _ _=>rfl) AllP.n))) ?_
  refine z01 (Vw.kp [0,3,4,8,23,24,25] [] rfl) ?_
  refine z0J z7 (c+1 - a) (by omega) [0,4,8,23] (fun j=>[(3,iv (Int.ofNat (bif z5f l w a j then zO l w ||| 1 <<< w else zO l w)))]) (fun _=>[]) (fun _=>True) rfl rfl rfl (fun _=>rfl) rfl rfl (z0K rfl (AImp.refl _) z0l) trivial trivial (fun j hj _=>?_) (fun _=>?_)
  ·have hB:=hb (a+j) (by omega)
   have q1:=hB.h2
   have q2:=hB.u2
   have q3:(za l (a+j)).holes.toNat<9223372036854775808:=by omega
   have q4:(za l (a+j)).unsure.toNat<9223372036854775808:=by omega
   have q5:(za l (a+j)).holes.toNat ||| (za l (a+j)).unsure.toNat<9223372036854775808:=Nat.lt_of_lt_of_le (Nat.or_lt_two_pow (n:=12) (by omega) (by omega)) (by decide)
   have q6:zO l w ||| 1 <<< w<9223372036854775808:=Nat.lt_of_lt_of_le (Nat.or_lt_two_pow (n:=13) (Nat.lt_of_lt_of_le (zdU l w) (Nat.pow_le_pow_right (by decide) (by omega))) (by rw [Nat.one_shiftLeft];exact Nat.pow_lt_pow_right (by decide) (by omega))) (by decide)
   have q7:(bif z5f l w a j then zO l w ||| 1 <<< w else zO l w)<9223372036854775808:=by cases z5f l w a j <;> assumption
   have e2:z5f l w a (j+1)=(z5f l w a j || !zgX (za l (a+j)) w):=rfl
   refine VSt.go z7 false [31] 200 rfl (AllP.c ‹_› (AllP.c rfl AllP.n)) ?_
   refine z03 30 (iv (Int.ofNat (za l (a+j)).holes.toNat)) rfl (z00 (congrArg iv hB.h1)) ?_
   refine VSt.go z7 false [33] 200 rfl AllP.n ?_
   refine z03 32 (iv (Int.ofNat (za l (a+j)).unsure.toNat)) rfl (z00 (congrArg iv hB.u1)) ?_
   refine VSt.go z7 false [] 200 rfl (AllP.c ‹_› (AllP.c ‹_› AllP.n)) ?_
   refine VSt.pc rfl rfl rfl rfl rfl rfl rfl rfl ((zgV (m:=(za l (a+j)).holes.toNat ||| (za l (a+j)).unsure.toNat) (k:=w) (by omega) q5)) ?_
   refine VSt.go z7 false [] 200 rfl AllP.n ?_
   refine VSt.cond rfl (fun h11=>?_) (fun h11=>?_)
   ·have h11:(!zgX (za l (a+j)) w)=true:=h11
    have e3:(bif z5f l w a j then zO l w ||| 1 <<< w else zO l w) ||| 1 <<< w=bif z5f l w a (j+1) then zO l w ||| 1 <<< w else zO l w:=by
     rw [e2,h11,Bool.or_true]
     cases z5f l w a j with
     | true=>show zO l w ||| 1 <<< w ||| 1 <<< w=zO l w ||| 1 <<< w;rw [Nat.or_assoc,Nat.or_self]
     | false=>rfl
    refine VSt.go z7 false [] 200 rfl AllP.n ?_
    refine VSt.pc rfl rfl rfl rfl rfl rfl rfl rfl ((zf9 (k:=w) (by omega) q7)) ?_
    refine VSt.go z7 false [] 200 rfl AllP.n ?_
    refine ⟨?_,trivial⟩
    dsimp only
    rw [←e3]
    (refine Vw.drop (by repeat (first | exact zo | refine zl rfl rfl rfl ?_ | refine z05 rfl ‹_› (zq _ ‹_›) ?_)))
   ·have h11:(!zgX (za l (a+j)) w)=false:=h11
    refine VSt.go z7 false [] 200 rfl AllP.n ?_
    refine ⟨?_,trivial⟩
    dsimp only
    rw [e2,h11,Bool.or_false]
    (refine Vw.drop (by repeat (first | exact zo | refine zl rfl rfl rfl ?_ | refine z05 rfl ‹_› (zq _ ‹_›) ?_)))
  ·refine VSt.go z7 false [] 200 rfl (AllP.c (by unfold inR;(try simp only [Int.ofNat_eq_natCast]);omega) AllP.n) ?_
   refine ⟨g,?_,trivial⟩
   dsimp only
   rw [e1]
   (refine Vw.drop (by repeat (first | exact zo | refine zl rfl rfl rfl ?_ | refine z05 rfl ‹_› (zq _ ‹_›) ?_)))
 ·have g:w=12:=by have:=nge (n:=12) g;omega
  subst g
  refine VSt.go z7 false [] 200 rfl AllP.n ?_
  exact EndsP.mk rfl rfl rfl rfl
end Go.Proofs.YtdpipdniklognaaGreat
/- Walks: the iterator of orders. -/
set_option maxRecDepth 100000
namespace Go.Proofs.YtdpipdniklognaaGreat
variable {r:Rm}
theorem z7k {h:Hp} {p:Int}:VP (sE r) 68 [.agg ((eHp h).map .p),iv p] (.fn 118 [] [.p (.fp (eHp h) 0),.p (.fp [.int .i64 p] 0)]):=by
 refine VP.of (fn:=Tryz.f68) z7 (zu rfl) (by kernel_rfl) rfl rfl rfl ?_
 refine VSt.go z7 false [4] 200 rfl AllP.n ?_
 refine z8 (zb 0 (eHp h) rfl rfl) ?_
 refine z8 (zb 1 [.int .i64 p] rfl rfl) ?_
 refine VSt.go z7 false [] 200 rfl AllP.n ?_
 exact EndsP.mk rfl rfl rfl rfl
def zeE (h:Hp) (l:List Sht) (row:List Nat):Bool:=zbO h (zP l row)&&(zO (zP l row) 12==0)
def zM (h:Hp) (p:Int):List (List Nat):=(z87 h (zJ h.st p)).filter (zeE h (zJ h.st p))
def zjF (h:Hp) (p:Int) (lpi lpo:VB) (k u:Nat) (g:Nat→Sht) (X:VS):VS:=z67 h h.stB (zJ h.st p) lpi k u g ((11,.cells [.yld 10] 141)::(10,lpo)::X)
abbrev s12 (s:List Nat):List Nat:=s5 (11::10::s)
def zp7 (r:Rm) (h:Hp) (p:Int) (N:Nat) (s:List Nat) (G:VK) (ps:List Tmp) (asg body:Code) (lpi:VB) (row:List Nat) (g:Nat→Sht) (I:VS→Prop) (J:LExit→VS→Prop):zI:=fun e F2 L2 =>
 (e = .normal∧∃ F0 X,Vw (sE r) (s12 s) F2 L2 F0 (zjF h p lpi (.loop .busy none G N ps asg body) row.length (z6p row) g X)∧I X) ∨
 (zh e=false∧∃ F0 X G3,Vw (sE r) (s12 s) F2 L2 F0 (zjF h p lpi (.loop .busy none G3 N ps asg body) row.length (z6p row) g X)∧J e X)
def zp8 (r:Rm) (h:Hp) (p:Int) (N:Nat) (s:List Nat) (G:VK) (ps:List Tmp) (asg body:Code) (lpi:VB) (row:List Nat) (g:Nat→Sht) (I:VS→Prop) (J:LExit→VS→Prop):zI:=fun e F1 L1 =>
 e = .normal∧∃ G2,bk L1 10=some (.loop .ready none G2 N ps asg body)∧VSt.H (sE r) N (s12 s) none (zp7 r h p N s G ps asg body lpi row g I J) (.code body [] F1 (up L1 10 (.loop .busy none G2 N ps asg body)))
def zoy (h:Hp) (p:Int) (N:Nat) (G:VK) (ps:List Tmp) (asg body:Code) (I:VS→Prop) (J:LExit→VS→Prop) (L':VS):Prop :=
 (∃ lp g X,L'=zjF h p lp (.loop .ready none G N ps asg body) 0 0 g X∧I X)∨(∃ lp g X e G3,zh e=false∧L'=zjF h p lp (.loop .done (codeOf e) G3 N ps asg body) 0 0 g X∧J e X)
theorem z2G {h:Hp} (hO:OkH h) (p:Int):(zJ h.st p).length≤7:=by
 cases hb:zJ h.st p with
 | nil=>exact Nat.zero_le _
 | cons x t =>
  have hx:x∈zJ h.st p:=by rw [hb];exact List.mem_cons_self ..
  obtain ⟨h1,h2⟩:=List.mem_filter.1 hx
  obtain ⟨k,hk,e⟩:=z0u (d:=default) h1
  have h3:=hO.few k hk
  have e2:za h.st k=x:=e
  rw [e2,eq_of_beq h2] at h3
  rw [←hb];exact h3
theorem zkA {h:Hp} (hO:OkH h) {p:Int} {row:List Nat} (hr:∀ i∈row,i<(zJ h.st p).length):∀ k,k<(zP (zJ h.st p) row).length→BitS (za (zP (zJ h.st p) row) k):=by
 intro k hk
 have h1:za (zP (zJ h.st p) row) k∈zP (zJ h.st p) row:=z0e hk
 obtain ⟨i,hi,e⟩:=List.mem_map.1 (show za (zP (zJ h.st p) row) k∈row.reverse.map fun i=>za (zJ h.st p) i from h1)
 rw [←e]
 have h2:za (zJ h.st p) i∈zJ h.st p:=z0e (hr i (List.mem_reverse.1 hi))
 obtain ⟨h3,_⟩:=List.mem_filter.1 h2
 obtain ⟨q,hq,e2⟩:=z0u (d:=default) h3
 have e3:za h.st q=za (zJ h.st p) i:=e2
 rw [←e3];exact (hO.ok q hq).bit
theorem zh1 {h:Hp} {l:List Sht}:∀ f {row0 row:List Nat},row∈z6r h l f row0→(∀ i∈row0,i<l.length)→∀ i∈row,i<l.length
 | 0,row0,row,hm,h0=>by
  have:row=row0:=List.mem_singleton.1 hm
  rw [this];exact h0
 | f+1,row0,row,hm,h0=>by
  obtain ⟨i,hi,hx⟩:=List.mem_flatMap.1 (show row∈(List.range l.length).flatMap fun i=>bif okR h l row0 i then z6r h l f (i::row0) else [] from hm)
  cases hk:okR h l row0 i with
  | false=>rw [hk] at hx;cases hx
  | true =>
   rw [hk] at hx
   refine zh1 f hx fun k hk=>?_
   rcases List.mem_cons.1 hk with rfl | hk
   ·exact List.mem_range.1 hi
   ·exact h0 k hk
theorem z9b {h:Hp} {l:List Sht} {row:List Nat} (hm:row∈z87 h l):∀ i∈row,i<l.length:=zh1 _ hm fun i hi=>by cases hi
theorem zhb {α : Type} {R:List α} {g : α → Bool} {q:Nat} {x : α} (h:R[q]? = some x):((R.take (q+1)).filter g).length=((R.take q).filter g).length+(bif g x then 1 else 0):=by
 rw [List.take_add_one,h,List.filter_append,List.length_append]
 cases hg:g x <;> simp [hg]
theorem zlp {α : Type} {R:List α} {g : α → Bool} {q:Nat} {x : α} (h:R[q]? = some x) (hg:g x=true):(R.filter g)[((R.take q).filter g).length]? = some x:=by
 have hq:q<R.length:=by
  rw [List.getElem?_eq_some_iff] at h;exact h.1
 have e:R=R.take q++x::R.drop (q+1):=by
  have h1:R[q]=x:=by rw [List.getElem?_eq_getElem hq] at h;exact Option.some.inj h
  rw [←h1,List.getElem_cons_drop,List.take_append_drop]
 have e2:R.filter g=(R.take q).filter g++x::(R.drop (q+1)).filter g:=by
  conv=>lhs;rw [e]
  rw [List.filter_append,List.filter_cons_of_pos hg]
 rw [e2,List.getElem?_append_right (Nat.le_refl _),Nat.sub_self];rfl
theorem zci {n:Nat} {g:Nat→Sht} {rl:List Sht} (hn:n=rl.length) (hg:∀ k,k<n→g k=za rl k):AImp (.p (.lst 74 false n fun q=>zR (g q))) (.p (z0W false rl)):=by
 subst hn
 exact AImp.lst fun k hk=>by rw [hg k hk];rfl
theorem z48 (m:Nat):(Int.ofNat m==0)=(m==0):=by
 rw [Bool.eq_iff_iff,beq_iff_eq,beq_iff_eq]
 simp only [Int.ofNat_eq_natCast];omega
theorem zou (s:List Nat):((10::s).all (inB (s12 s)))=true:=by
 rw [List.all_eq_true]
 intro x hx
 unfold inB
 rw [List.any_eq_true]
 exact ⟨x,by simp only [List.mem_cons];simp only [List.mem_cons] at hx;rcases hx with h | h <;> simp [h],Nat.beq_refl x⟩
set_option maxHeartbeats 8000000 in
theorem z5H {h:Hp} {p:Int} (hz:SzH h) (hO:OkH h) {N:Nat} {G G1:VK} {ps:List Tmp} {asg body:Code} {X:VS} (s:List Nat) (I:Nat→VS→Prop) (J:LExit→VS→Prop) (hX:∀ i,i<12→bk X i=none) (hI:I 0 X)
  (hk:z6v N ps [.sl 5 6 0 (zJ h.st p).length (zJ h.st p).length 1] G=some G1)
  (hround:∀ q row g lpi X,(zM h p)[q]? = some row→row.length=(zJ h.st p).length→(∀ k,k<row.length→g k=za (zP (zJ h.st p) row) k)→I q X→VSt.H (sE r) N (s12 s) none (zp8 r h p N s G ps asg body lpi row g (I (q+1)) J) (.code asg [] G1 (zjF h p lpi (.loop .ready none G N ps asg body) row.length (z6p row) g X))) :
  VC (sE r) (10::s) 118 [.yld 10,.p (.fp (eHp h) 0),.p (.fp [.int .i64 p] 0)] ((10,.loop .ready none G N ps asg body)::X) (fun _ L'=>zoy h p N G ps asg body (I (zM h p).length) J L'):=by
 have hb7:=z2G hO p
 have hsw:=hO.sw
 have hst:=hO.st
 refine z8T (fn:=Tryz.f118) z7 (zu rfl) (by kernel_rfl) rfl rfl ?_
 refine zf z7 false [3] 200 rfl trivial ?_
 refine ze1 11 (hX 11 (by decide)) rfl rfl rfl rfl rfl ?_
 refine zf z7 false [] 200 rfl trivial ?_
 refine z0b rfl rfl rfl rfl rfl rfl rfl rfl ((zht (h:=h) (p:=p) hz (by omega))) ?_
 refine zf z7 false [] 200 rfl trivial ?_
 refine z0b rfl rfl rfl rfl rfl rfl rfl rfl ((rows_ok (h:=h) (b:=h.stB) (l:=zJ h.st p))) ?_
 refine zf z7 false [] 200 rfl trivial ?_
 refine z1O 0 (s12 s) (hX 0 (by decide)) rfl rfl rfl (zou s)
  (zig (by omega) (by omega) (11::10::s) (fun q X'=>∃ X0,X'=(11,.cells [.yld 10] 141)::(10,.loop .ready none G N ps asg body)::X0∧I (((z87 h (zJ h.st p)).take q).filter (zeE h (zJ h.st p))).length X0)
   (fun e X'=>e = .ret∧∃ X0 e2 G3,X'=(11,.cells [.yld 10] 141)::(10,.loop .done (codeOf e2) G3 N ps asg body)::X0∧zh e2=false∧J e2 X0)
   (fun i hi=>by rw [z06,if_neg (by omega),z06,if_neg (by omega)];exact hX i (by omega)) ⟨X,rfl,hI⟩ rfl ?_) (fun a L' ha=>?_)
 ·rintro q row g X' hq hn hg ⟨X0,rfl,hI0⟩
  unfold z67
  refine zf z7 false [] 200 rfl AllP.n ?_
  refine ⟨rfl,_,rfl,?_⟩
  refine zf z7 false [] 200 rfl AllP.n ?_
  have hrl:(zJ h.st p).length=(zP (zJ h.st p) row).length:=by rw [z2x,hn]
  have hg2:∀ k,k<(zJ h.st p).length→g k=za (zP (zJ h.st p) row) k:=fun k hk=>hg k (by omega)
  have hmem:=List.mem_of_getElem? hq
  have hbit:=zkA hO (z9b hmem)
  have hfs:=zhb (g:=zeE h (zJ h.st p)) hq
  have hgd:zeE h (zJ h.st p) row=(zbO h (zP (zJ h.st p) row)&&(zO (zP (zJ h.st p) row) 12==0)):=rfl
  refine z5r (F0:=[(11,.agg ((eHp h).map .p)),(12,.p (.lst 74 false (zJ h.st p).length fun q=>zR (g q)))]) (zcP (i:=5) rfl (zmG rfl rfl (zgB rfl (Nat.le_refl _) (Nat.le_refl _) z9z))) rfl rfl rfl rfl rfl rfl rfl
   (VP.imp (zea (h:=h) (b:=false) (l:=zP (zJ h.st p) row) (by omega) (by omega)) ⟨AImp.refl _,zci hrl hg2,trivial⟩) rfl ?_
  refine zf z7 false [] 200 rfl AllP.n ?_
  refine zg 14 rfl (fun h1=>?_) (fun h1=>?_)
  rotate_left
  ·have h1:zbO h (zP (zJ h.st p) row)=false:=h1
   refine zf z7 false [] 200 rfl AllP.n ?_
   refine .inl ⟨rfl,[],g,_,Vw.sub' (z6x z0p),hg,X0,rfl,?_⟩
   rw [hfs,hgd,h1];exact hI0
  have h1:zbO h (zP (zJ h.st p) row)=true:=h1
  refine zf z7 false [] 200 rfl AllP.n ?_
  refine z5r (F0:=[(15,.p (.lst 74 false (zJ h.st p).length fun q=>zR (g q)))]) (zcP (i:=5) rfl (zgB rfl (Nat.le_refl _) (Nat.le_refl _) z9z)) rfl rfl rfl rfl rfl rfl rfl
   (VP.imp (zhv (b:=false) (l:=zP (zJ h.st p) row) (by omega) hbit) ⟨zci hrl hg2,trivial⟩) rfl ?_
  refine zf z7 false [] 200 rfl AllP.n ?_
  refine z03 19 (bv (zO (zP (zJ h.st p) row) 12==0)) rfl (z00 (by rw [z48])) ?_
  refine zg 19 rfl (fun h2=>?_) (fun h2=>?_)
  rotate_left
  ·have h2:(zO (zP (zJ h.st p) row) 12==0)=false:=h2
   refine zf z7 false [] 200 rfl AllP.n ?_
   refine .inl ⟨rfl,[],g,_,Vw.sub' (z6x z0p),hg,X0,rfl,?_⟩
   rw [hfs,hgd,h1,h2];exact hI0
  have h2:(zO (zP (zJ h.st p) row) 12==0)=true:=h2
  have hgt:zeE h (zJ h.st p) row=true:=by rw [hgd,h1,h2];rfl
  refine zf z7 false [] 200 rfl AllP.n ?_
  refine VSt.yieldN (s12 s) rfl rfl rfl rfl rfl rfl rfl hk rfl rfl (za4 _) (VW.mono (hround _ row g _ X0 (zlp hq hgt) hn hg hI0) ?_)
  refine fun e F1 L1' h=>⟨h.1,h.2.elim fun G2 h2=>⟨G2,h2.1,VW.mono h2.2 ?_⟩⟩
  refine fun e F2 L2 h=>?_
  rcases h with ⟨he,F0,X1,hv,hI1⟩ | ⟨he,F0,X1,G3,hv,hJ1⟩
  ·subst he
   refine ⟨F0,_,none,G,hv,rfl,?_⟩
   refine zf z7 false [] 200 rfl AllP.n ?_
   refine .inl ⟨rfl,[],g,_,Vw.sub' (z6x z0p),hg,X1,rfl,?_⟩
   rw [hfs,hgt];exact hI1
  ·refine ⟨F0,_,none,G3,hv,rfl,?_⟩
   rw [he]
   refine zf z7 false [] 200 rfl AllP.n ?_
   exact .inr ⟨rfl,[],g,_,_,Vw.sub' (z6x z0p),rfl,X1,e,G3,rfl,he,hJ1⟩
 ·rcases ha with ⟨g1,X1,rfl,X0,rfl,hI1⟩ | ⟨g1,X1,e,G3,he,rfl,rfl,X0,e2,G4,rfl,he2,hJ1⟩
  ·refine ⟨_,_,_,.normal,_,_,_,_,rfl,rfl,rfl,?_⟩
   refine zf z7 false [] 200 rfl AllP.n ?_
   refine ⟨rfl,_,rfl,.inl ⟨_,g1,X0,rfl,?_⟩⟩
   rw [List.take_length] at hI1;exact hI1
  ·refine ⟨_,_,_,.ret,_,_,_,_,rfl,rfl,rfl,?_⟩
   refine zf z7 false [] 200 rfl AllP.n ?_
   exact ⟨rfl,_,rfl,.inr ⟨_,g1,X0,e2,G4,he2,rfl,hJ1⟩⟩
end Go.Proofs.YtdpipdniklognaaGreat
/- Walks: loops over the orders: Count, nth, Order, Nth. -/
set_option maxRecDepth 100000
namespace Go.Proofs.YtdpipdniklognaaGreat
variable {r:Rm}
theorem VSt.scope {E:Env} {N:Nat} {st:List Nat} {rd:Option Nat} {Q:zI} {c:Code} {K:List KI} {F:VK} {L:VS} (h:VSt.H E N st rd Q (.code c K F L)):VSt.H E N st rd Q (.code (.scope c) K F L):=by
 intro T S Z j h1 h2 h3 h4
 obtain ⟨n,r,h5,h6⟩:=h T S Z j h1 h2 h3 h4
 exact ⟨n+1,r,fun m hm=>by obtain ⟨k,rfl,hk⟩:=ze hm;exact h5 (k+1) (by omega),h6⟩
theorem VSt.label {E:Env} {N:Nat} {st:List Nat} {rd:Option Nat} {Q:zI} {n:Nat} {K:List KI} {F:VK} {L:VS} (h:VSt.H E N st rd Q (.ex .normal K F L)):VSt.H E N st rd Q (.code (.label n) K F L):=fun T S Z j h1 h2 h3 h4 =>
 ⟨1,⟨.normal,T,S⟩,fun m hm=>by obtain ⟨k,rfl,_⟩:=ze hm;rfl,F,L,Z,j,z2X h1 h2 h3 h4,h⟩
noncomputable def zm1 (h:Hp) (p:Int):Int:=if ppE h p=0 then Int.ofNat (min (zM h p).length 1000) else 0
set_option maxHeartbeats 8000000 in
theorem zju {h:Hp} {p:Int} (hz:SzH h):VP (sE r) 38 [.agg ((eHp h).map .p),iv p] (.tup [iv (zm1 h p),iv (ppE h p)]):=by
 have hc:=z44 (r:=r) (p:=p) hz
 rcases z18 h p with ⟨hO,e⟩ | e
 rotate_left
 ·rw [show zm1 h p=0 from if_neg (z3J e)]
  refine VP.of (fn:=Tryz.f38) z7 (zu rfl) (by kernel_rfl) rfl rfl rfl ?_
  refine VSt.go z7 false [] 200 rfl AllP.n ?_
  refine z01 (zb 0 (eHp h) rfl rfl) ?_
  refine VSt.scope ?_
  refine VSt.go z7 false [] 200 rfl AllP.n ?_
  refine VSt.pc rfl rfl rfl rfl rfl rfl rfl rfl (hc) ?_
  refine VSt.go z7 false [] 200 rfl AllP.n ?_
  refine VSt.cond rfl (fun _=>?_) (fun q=>absurd (q.symm.trans e) (by decide))
  refine VSt.go z7 false [] 200 rfl AllP.n ?_
  exact EndsP.mk rfl rfl rfl rfl
 rw [show zm1 h p=Int.ofNat (min (zM h p).length 1000) from if_pos e]
 rw [e] at hc ⊢
 refine VP.of (fn:=Tryz.f38) z7 (zu rfl) (by kernel_rfl) rfl rfl rfl ?_
 refine VSt.go z7 false [] 200 rfl AllP.n ?_
 refine z01 (zb 0 (eHp h) rfl rfl) ?_
 refine VSt.scope ?_
 refine VSt.go z7 false [] 200 rfl AllP.n ?_
 refine VSt.pc rfl rfl rfl rfl rfl rfl rfl rfl (hc) ?_
 refine VSt.go z7 false [] 200 rfl AllP.n ?_
 refine VSt.cond rfl (fun q=>absurd q (by decide)) (fun _=>?_)
 refine VSt.go z7 false [] 200 rfl AllP.n ?_
 refine VSt.label ?_
 refine VSt.go z7 false [] 200 rfl AllP.n ?_
 refine VSt.pc rfl rfl rfl rfl rfl rfl rfl rfl ((z7k (h:=h) (p:=p))) ?_
 refine VSt.go z7 false [] 200 rfl AllP.n ?_
 refine z01 (Vw.kp [4,5,7,16] [(12,0)] rfl) ?_
 refine z1O 10 [10,12] rfl rfl rfl rfl rfl
  (z5H hz hO [12] (fun q X=>X=[(12,.cells [nv q] 3)]∧q<1000) (fun e X=>e = .exit 0∧X=[(12,.cells [nv 1000] 3)]∧1000≤(zM h p).length)
   (fun i hi=>by show bk [(12,_)] i=none;rw [z06,if_neg (by omega)];rfl) ⟨rfl,by decide⟩ rfl ?_) (fun a L' ha=>?_)
 ·rintro q row g lpi X hq hn hg ⟨rfl,hq1⟩
  have hql:q<(zM h p).length:=(List.getElem?_eq_some_iff.1 hq).1
  unfold zjF z67
  refine zf z7 false [] 200 rfl AllP.n ?_
  refine ⟨rfl,_,rfl,?_⟩
  refine zf z7 false [20] 200 rfl (AllP.c (by unfold inR;(try simp only [Int.ofNat_eq_natCast]);omega) AllP.n) ?_
  refine zf z7 false [] 200 rfl AllP.n ?_
  refine VSt.cond rfl (fun h1=>?_) (fun h1=>?_)
  ·have h1:(Int.ofNat (q+1)==1000)=true:=h1
   have e1:q=999:=by
    have:=eq_of_beq h1
    simp only [Int.ofNat_eq_natCast] at this
    omega
   subst e1
   refine zf z7 false [] 200 rfl AllP.n ?_
   exact .inr ⟨rfl,[],_,_,Vw.sub' (z6x z0p),rfl,rfl,hql⟩
  ·have h1:(Int.ofNat (q+1)==1000)=false:=h1
   have e1:q+1≠1000:=fun e=>by rw [e] at h1;exact absurd h1 (by decide)
   refine zf z7 false [] 200 rfl AllP.n ?_
   exact .inl ⟨rfl,[],_,Vw.sub' (z6x z0p),rfl,by omega⟩
 ·rcases ha with ⟨lp,g1,X,rfl,rfl,hlt⟩ | ⟨lp,g1,X,e,G3,he,rfl,rfl,rfl,hle⟩
  ·refine ⟨_,_,_,.normal,_,_,_,_,rfl,rfl,rfl,?_⟩
   refine zf z7 false [] 200 rfl AllP.n ?_
   refine EndsP.mk rfl rfl rfl ?_
   rw [Nat.min_eq_left (by omega)];rfl
  ·refine ⟨_,_,_,.exit 0,_,_,_,_,rfl,rfl,rfl,?_⟩
   refine zf z7 false [] 200 rfl AllP.n ?_
   refine EndsP.mk rfl rfl rfl ?_
   rw [Nat.min_eq_right hle];rfl
theorem zgQ {n n0 c ex:Nat} {g:Nat→Sht} {rl:List Sht} (hn:n=rl.length) (h0:n≤n0) (hc:n≤c) (hg:∀ k,k<n→g k=za rl k) (hl:n≤1000) :
  VC (sE r) [0] 111 [.sl 0 6 0 n c ex] [(0,.arr n0 6 (fun q=>zR (g q)) 74)] (fun a L'=>a = .p (eL (rl.map (·.id)))∧L'=[(0,.arr n0 6 (fun q=>zR (g q)) 74)]):=by
 subst hn
 refine z8T (fn:=Tryz.f111) z7 (zu rfl) (by kernel_rfl) rfl rfl ?_
 refine VSt.go z7 false [] 200 rfl AllP.n ?_
 refine z01 (z1y 1 1 (fL []) 3 rfl) ?_
 refine z0J z7 rl.length (by omega) [6] (fun k=>[(3,.acc true 1 1 ((rl.take k).map (·.id)).length)]) (fun k=>[(1,.acc ((rl.take k).map (·.id)).length 1 (fL ((rl.take k).map (·.id))) 3),(0,.arr n0 6 (fun q=>zR (g q)) 74)]) (fun _=>True) rfl rfl rfl (fun _=>rfl) rfl rfl (z0K rfl z0o z0l) (LImp.refl _) trivial (fun k hk _=>?_) (fun _=>?_)
 ·have e:=z9v (f:=fun s:Sht=>s.id) hk
  have hN:=congrArg List.length e
  rw [List.length_append,List.length_singleton] at hN
  have hlen:((rl.take k).map (·.id)).length=k:=by rw [List.length_map,List.length_take];omega
  have hk0:0+k<n0:=by omega
  rw [show rl.getD k default=g (0+k) by rw [Nat.zero_add,hg k hk];rfl] at e
  refine VSt.go z7 false [] 200 rfl (AllP.c ‹_› (AllP.c rfl (AllP.c ‹_› (AllP.c rfl (AllP.c (by omega) (AllP.c (by omega) (AllP.c (fun q hq=>match q,hq with | 0,_=>rfl) (AllP.c rfl (AllP.c rfl (AllP.c rfl AllP.n)))))))))) ?_
  refine ⟨?_,trivial⟩
  exact z14 (ps:=[(1,3),(0,0)]) ⟨rfl,rfl,(by repeat (first | exact zo | refine zl rfl rfl rfl ?_ | refine z0z rfl rfl z16 ?_ | refine z0z rfl rfl (AImp.acc hN.symm (fun _=>rfl)) ?_)),_,rfl,⟨rfl,BImp.acc hN.symm (fun q hq=>by rw [e];exact z3V _ _ q hq),rfl,BImp.refl _,trivial⟩⟩
 ·rw [List.take_length]
  refine VSt.go z7 false [18] 200 rfl AllP.n ?_
  refine z8 (Vw.kp [3] [(1,1),(0,0)] rfl) ?_
  refine z8 (z0t 1 rfl rfl ⟨Nat.le_refl _,rfl⟩) ?_
  refine VSt.go z7 false [] 200 rfl AllP.n ?_
  exact ⟨rfl,_,rfl,z8S rfl,rfl⟩
def zb7 (h:Hp) (p:Int) (row:List Nat):List Int:=(zP (zJ h.st p) row).map (·.id)
def zcd (h:Hp) (p:Int) (m:Nat):List Int:=match (zM h p)[m]? with
 | some row=>zb7 h p row
 | none=>[]
theorem zgt {h:Hp} {p:Int} {m:Nat} {row:List Nat} (e:(zM h p)[m]? = some row):zcd h p m=zb7 h p row:=by unfold zcd;rw [e]
theorem zcc {h:Hp} {p:Int} {m:Nat} (e:(zM h p).length≤m):zcd h p m=[]:=by unfold zcd;rw [List.getElem?_eq_none e]
set_option maxHeartbeats 8000000 in
theorem zjJ {h:Hp} {p:Int} {m:Nat} (hz:SzH h) (hO:OkH h) (hm:m≤1000000):VP (sE r) 101 [.agg ((eHp h).map .p),iv p,nv m] (.tup [.p (eL (zcd h p m)),bv (decide (m<(zM h p).length))]):=by
 have hb7:=z2G hO p
 refine VP.of (fn:=Tryz.f101) z7 (zu rfl) (by kernel_rfl) rfl rfl rfl ?_
 refine VSt.go z7 false [] 200 rfl AllP.n ?_
 refine z8 (zb 0 (eHp h) rfl rfl) ?_
 refine z8 (zb 1 [.int .i64 (Int.ofNat m)] rfl rfl) ?_
 refine VSt.pc rfl rfl rfl rfl rfl rfl rfl rfl ((z7k (h:=h) (p:=p))) ?_
 refine VSt.go z7 false [] 200 rfl AllP.n ?_
 refine z01 (Vw.kp [3,5,6,7,8,12] [(14,4),(13,3),(12,2)] rfl) ?_
 refine z1O 10 [10,12,13,14] rfl rfl rfl rfl rfl
  (z5H hz hO [12,13,14] (fun q X=>X=[(14,.cells [nv q] 3),(13,.cells [bv false] 4),(12,.cells [.p (.lst 0 true 0 fun _=>[])] 37)]∧q≤m)
   (fun e X=>e = .ret∧∃ row,(zM h p)[m]? = some row∧X=[(14,.cells [nv m] 3),(13,.cells [bv true] 4),(12,.cells [.p (eL (zb7 h p row))] 37)])
   (fun i hi=>by show bk [(14,_),(13,_),(12,_)] i=none;rw [z06,if_neg (by omega),z06,if_neg (by omega),z06,if_neg (by omega)];rfl) ⟨rfl,Nat.zero_le _⟩ rfl ?_) (fun a L' ha=>?_)
 ·rintro q row g lpi X hq hn hg ⟨rfl,hq1⟩
  have hrl:(zJ h.st p).length=(zP (zJ h.st p) row).length:=by rw [z2x,hn]
  have hg2:∀ k,k<(zJ h.st p).length→g k=za (zP (zJ h.st p) row) k:=fun k hk=>hg k (by omega)
  unfold zjF z67
  refine zf z7 false [] 200 rfl AllP.n ?_
  refine ⟨rfl,_,rfl,?_⟩
  refine zf z7 false [] 200 rfl AllP.n ?_
  refine VSt.cond rfl (fun h1=>?_) (fun h1=>?_)
  ·have h1:(Int.ofNat q==Int.ofNat m)=true:=h1
   have e1:q=m:=by
    have:=eq_of_beq h1
    simp only [Int.ofNat_eq_natCast] at this
    omega
   subst e1
   refine zf z7 false [18] 200 rfl AllP.n ?_
   refine VSt.fr 1 [(17,.sl 5 6 0 (zJ h.st p).length (zJ h.st p).length 1)] [(6,.ref 12 0),(7,.ref 13 0)] 5 (by repeat (first | exact z0p | refine z0A rfl ?_)) (by repeat (first | exact z0p | refine z0A rfl ?_)) rfl rfl rfl ?_
   refine VSt.cc [(0,5)] rfl rfl rfl rfl rfl rfl rfl rfl rfl rfl rfl (zgQ (rl:=zP (zJ h.st p) row) hrl (Nat.le_refl _) (Nat.le_refl _) hg2 (by omega)) (fun a L' ha=>?_)
   rcases ha with ⟨rfl,rfl⟩
   refine VSt.go z7 false [] 200 rfl AllP.n ?_
   refine ⟨rfl,[(18,.p (eL (zb7 h p row)))],(fun q=>zR (g q)),Vw.kp [18] [(5,5)] rfl,rfl,?_⟩
   refine zf z7 false [] 200 rfl AllP.n ?_
   exact .inr ⟨rfl,[],_,_,Vw.sub' (z6x z0p),rfl,row,hq,rfl⟩
  ·have h1:(Int.ofNat q==Int.ofNat m)=false:=h1
   have e1:q≠m:=fun e=>by rw [e,beq_self_eq_true] at h1;cases h1
   refine zf z7 false [] 200 rfl (AllP.c (by unfold inR;(try simp only [Int.ofNat_eq_natCast]);omega) AllP.n) ?_
   exact .inl ⟨rfl,[],_,Vw.sub' (z6x z0p),rfl,by omega⟩
 ·rcases ha with ⟨lp,g1,X,rfl,rfl,hlt⟩ | ⟨lp,g1,X,e,G3,he,rfl,rfl,row,hrow,rfl⟩
  ·refine ⟨_,_,_,.normal,_,_,_,_,rfl,rfl,rfl,?_⟩
   refine zf z7 false [] 200 rfl AllP.n ?_
   rw [zcc hlt,decide_eq_false (show ¬ m<(zM h p).length by omega)]
   refine ⟨rfl,_,rfl,rfl,?_⟩
   exact AImp.tup ⟨AImp.nil,AImp.refl _,trivial⟩
  ·refine ⟨_,_,_,.ret,_,_,_,_,rfl,rfl,rfl,?_⟩
   refine zf z7 false [] 200 rfl AllP.n ?_
   refine EndsP.mk rfl rfl rfl ?_
   have hlt:=(List.getElem?_eq_some_iff.1 hrow).1
   rw [zgt hrow,decide_eq_true hlt];rfl
end Go.Proofs.YtdpipdniklognaaGreat
/- Walks: whether a list is an order. -/
set_option maxRecDepth 100000
namespace Go.Proofs.YtdpipdniklognaaGreat
variable {r:Rm}
theorem zj5 {b1 b2:Bool} {l m:List Int} (hl:l.length<9223372036854775808) (hm:m.length<9223372036854775808):VP (sE r) 141 [.p (z3E b1 l),.p (z3E b2 m)] (bv (l==m)):=by
 refine VP.of (fn:=Tryz.f141) z7 (zu rfl) (by kernel_rfl) rfl rfl rfl ?_
 refine VSt.go z7 false [] 200 rfl AllP.n ?_
 refine VSt.cond rfl (fun h=>?_) (fun h=>?_)
 ·have h:(!(Int.ofNat l.length==Int.ofNat m.length))=true:=h
  have e:(l==m)=false:=by
   rw [←Bool.not_eq_true]
   intro g
   rw [eq_of_beq g,beq_self_eq_true] at h;cases h
  refine VSt.go z7 false [] 200 rfl AllP.n ?_
  refine EndsP.mk rfl rfl rfl ?_
  show bv false=bv _
  rw [e]
 have h:(!(Int.ofNat l.length==Int.ofNat m.length))=false:=h
 have e:l.length=m.length:=by
  have:=eq_of_beq (show (Int.ofNat l.length==Int.ofNat m.length)=true by simpa using h)
  simp only [Int.ofNat_eq_natCast] at this
  omega
 refine VSt.go z7 false [] 200 rfl AllP.n ?_
 refine z0J z7 l.length hl [0,1] (fun _=>[]) (fun _=>[]) (fun k=>∀ i,i<k→l.getD i 0=m.getD i 0) rfl rfl rfl (fun _=>rfl) rfl rfl z0l trivial none0 (fun k hk hp=>?_) (fun hp=>?_)
 ·have hkm:k<m.length:=by omega
  refine VSt.go z7 false [] 200 rfl (AllP.c ‹_› (AllP.c rfl (AllP.c ‹_› (AllP.c rfl AllP.n)))) ?_
  refine VSt.cond rfl (fun h1=>?_) (fun h1=>?_)
  ·have h1:(!(l.getD k 0==m.getD k 0))=true:=h1
   have e2:(l==m)=false:=by
    rw [←Bool.not_eq_true]
    intro g
    rw [eq_of_beq g,beq_self_eq_true] at h1;cases h1
   refine VSt.go z7 false [] 200 rfl AllP.n ?_
   refine EndsP.mk rfl rfl rfl ?_
   show bv false=bv _
   rw [e2]
  ·have h1:(!(l.getD k 0==m.getD k 0))=false:=h1
   refine VSt.go z7 false [] 200 rfl AllP.n ?_
   exact ⟨by (refine Vw.drop (by repeat (first | exact zo | refine zl rfl rfl rfl ?_ | refine z05 rfl ‹_› (zq _ ‹_›) ?_))),z0d hp (eq_of_beq (by simpa using h1))⟩
 ·have e2:l=m:=List.ext_getElem e fun i h1 h2=>by
   have:=hp i h1
   rwa [z0a h1,z0a h2] at this
  refine VSt.go z7 false [] 200 rfl AllP.n ?_
  refine EndsP.mk rfl rfl rfl ?_
  show bv true=bv _
  rw [e2,beq_self_eq_true]
theorem zgR {b:Bool} {l:List Sht} (hn:l.length≤1000):VC (sE r) [] 111 [.p (z0W b l)] [] (fun a L'=>a = .acc true 0 1 (l.map (·.id)).length∧L'=[(0,.acc (l.map (·.id)).length 1 (fL (l.map (·.id))) 3)]):=by
 refine z8T (fn:=Tryz.f111) z7 (zu rfl) (by kernel_rfl) rfl rfl ?_
 refine VSt.go z7 false [] 200 rfl AllP.n ?_
 refine z01 (z1y 0 1 (fL []) 3 rfl) ?_
 refine z0J z7 l.length (by omega) [6] (fun k=>[(3,.acc true 0 1 ((l.take k).map (·.id)).length)]) (fun k=>[(0,.acc ((l.take k).map (·.id)).length 1 (fL ((l.take k).map (·.id))) 3)]) (fun _=>True) rfl rfl rfl (fun _=>rfl) rfl rfl (z0K rfl z0o z0l) (LImp.refl _) trivial (fun k hk _=>?_) (fun _=>?_)
 ·have e:=z9v (f:=fun s:Sht=>s.id) hk
  have hN:=congrArg List.length e
  rw [List.length_append,List.length_singleton] at hN
  have hlen:((l.take k).map (·.id)).length=k:=by rw [List.length_map,List.length_take];omega
  refine VSt.go z7 false [] 200 rfl (AllP.c ‹_› (AllP.c rfl (AllP.c (by omega) (AllP.c (by omega) (AllP.c (fun q hq=>match q,hq with | 0,_=>rfl) (AllP.c rfl (AllP.c rfl (AllP.c rfl AllP.n)))))))) ?_
  refine ⟨?_,trivial⟩
  exact z14 (ps:=[(0,2)]) ⟨rfl,rfl,(by repeat (first | exact zo | refine zl rfl rfl rfl ?_ | refine z0z rfl rfl z16 ?_ | refine z0z rfl rfl (AImp.acc hN.symm (fun _=>rfl)) ?_)),_,rfl,⟨rfl,BImp.acc hN.symm (fun q hq=>by rw [e];exact z3V _ _ q hq),trivial⟩⟩
 ·rw [List.take_length]
  refine VSt.go z7 false [18] 200 rfl AllP.n ?_
  refine z8 (Vw.kp [3] [(0,0)] rfl) ?_
  refine VSt.go z7 false [] 200 rfl AllP.n ?_
  exact ⟨rfl,_,rfl,rfl,rfl⟩
def z5a (h:Hp) (p:Int) (o:List Int):Bool:=(zM h p).any fun row=>zb7 h p row==o
set_option maxHeartbeats 8000000 in
theorem z8z {h:Hp} {p:Int} {b:Bool} {o:List Int} (hz:SzH h) (hO:OkH h) (ho:o.length<9223372036854775808):VP (sE r) 100 [.agg ((eHp h).map .p),iv p,.p (z3E b o)] (bv (z5a h p o)):=by
 have hb7:=z2G hO p
 refine VP.of (fn:=Tryz.f100) z7 (zu rfl) (by kernel_rfl) rfl rfl rfl ?_
 refine VSt.go z7 false [] 200 rfl AllP.n ?_
 refine z8 (zb 0 (eHp h) rfl rfl) ?_
 refine z8 (zb 1 [z3E b o] rfl rfl) ?_
 refine VSt.pc rfl rfl rfl rfl rfl rfl rfl rfl ((z7k (h:=h) (p:=p))) ?_
 refine VSt.go z7 false [] 200 rfl AllP.n ?_
 refine z01 (Vw.kp [3,5,6,10] [(12,2)] rfl) ?_
 refine z1O 10 [10,12] rfl rfl rfl rfl rfl
  (z5H hz hO [12] (fun q X=>X=[(12,.cells [bv false] 4)]∧((zM h p).take q).any (fun row=>zb7 h p row==o)=false)
   (fun e X=>e = .ret∧z5a h p o=true∧X=[(12,.cells [bv true] 4)])
   (fun i hi=>by show bk [(12,_)] i=none;rw [z06,if_neg (by omega)];rfl) ⟨rfl,rfl⟩ rfl ?_) (fun a L' ha=>?_)
 ·rintro q row g lpi X hq hn hg ⟨rfl,hq1⟩
  have hrl:(zJ h.st p).length=(zP (zJ h.st p) row).length:=by rw [z2x,hn]
  have hg2:∀ k,k<(zJ h.st p).length→g k=za (zP (zJ h.st p) row) k:=fun k hk=>hg k (by omega)
  unfold zjF z67
  refine zf z7 false [] 200 rfl AllP.n ?_
  refine ⟨rfl,_,rfl,?_⟩
  refine zf z7 false [] 200 rfl AllP.n ?_
  refine zeV (F0:=[(12,.p (.lst 74 false (zJ h.st p).length fun q=>zR (g q)))]) (zcP (i:=5) rfl (zgB rfl (Nat.le_refl _) (Nat.le_refl _) z9z)) rfl rfl rfl rfl rfl rfl rfl
   (fun S Z j vs h1 h2 h3=>zgR (b:=false) (l:=zP (zJ h.st p) row) (by omega) S Z j vs h1 ((show AImps [.p (.lst 74 false (zJ h.st p).length fun q=>zR (g q))] [.p (z0W false (zP (zJ h.st p) row))] from ⟨zci hrl hg2,trivial⟩).vrs h2) h3)
   (fun k hk=>rfl) ?_
  refine zf z7 false [] 200 rfl AllP.n ?_
  refine z0b rfl rfl rfl rfl rfl rfl rfl rfl ((zj5 (b1:=Nat.beq (zb7 h p row).length 0) (b2:=b) (l:=zb7 h p row) (m:=o) (by unfold zb7;rw [List.length_map];omega) ho)) ?_
  refine zf z7 false [] 200 rfl AllP.n ?_
  refine VSt.cond rfl (fun h1=>?_) (fun h1=>?_)
  ·have h1:(zb7 h p row==o)=true:=h1
   refine zf z7 false [] 200 rfl AllP.n ?_
   refine .inr ⟨rfl,[],_,_,Vw.sub' (z6x z0p),rfl,?_,rfl⟩
   exact List.any_eq_true.2 ⟨row,List.mem_of_getElem? hq,h1⟩
  ·have h1:(zb7 h p row==o)=false:=h1
   refine zf z7 false [] 200 rfl AllP.n ?_
   refine .inl ⟨rfl,[],_,Vw.sub' (z6x z0p),rfl,?_⟩
   rw [List.take_add_one,hq,List.any_append,hq1]
   show (false||((zb7 h p row==o)||false))=false
   rw [h1];rfl
 ·rcases ha with ⟨lp,g1,X,rfl,rfl,hlt⟩ | ⟨lp,g1,X,e,G3,he,rfl,rfl,hrow,rfl⟩
  ·refine ⟨_,_,_,.normal,_,_,_,_,rfl,rfl,rfl,?_⟩
   refine zf z7 false [] 200 rfl AllP.n ?_
   refine EndsP.mk rfl rfl rfl ?_
   rw [List.take_length] at hlt
   rw [show z5a h p o=false from hlt];rfl
  ·refine ⟨_,_,_,.ret,_,_,_,_,rfl,rfl,rfl,?_⟩
   refine zf z7 false [] 200 rfl AllP.n ?_
   refine EndsP.mk rfl rfl rfl ?_
   rw [hrow];rfl
end Go.Proofs.YtdpipdniklognaaGreat
/- Walks of the reference: threaded, sews, Index, Has, broken. -/
set_option maxRecDepth 100000
namespace Go.Proofs.YtdpipdniklognaaGreat
variable {r:Rm}
def z1v (b:Bool) (l:List Nat):PV:=z3E b (l.map Int.ofNat)
def zA (l:List Nat) (k:Nat):Nat:=l.getD k 0
theorem z1a {l:List Nat} {k:Nat}:(l.map Int.ofNat).getD k 0=Int.ofNat (zA l k):=by
 unfold zA
 simp only [List.getD_eq_getElem?_getD,List.getElem?_map]
 cases l[k]? <;> rfl
def zeb (h:Hp) (s:Sht):Bool:=h.sw.any fun x=>x.too==s.id
def za6 (h:Hp) (s:Sht):Bool:=h.sw.any fun x=>x.fro==s.id
theorem za3 {p:Sew→Bool} {w:List Sew} {k:Nat} (hk:k<w.length) (h:p (zy w k)=true):w.any p=true:=List.any_eq_true.2 ⟨_,z0e hk,h⟩
theorem z6T {p:Sew→Bool} {w:List Sew} (h:∀ k,k<w.length→p (zy w k)=false):w.any p=false:=by
 rw [←Bool.not_eq_true,List.any_eq_true]
 rintro ⟨x,hx,h1⟩
 obtain ⟨k,hk,e⟩:=z0u (d:=default) hx
 have:=h k hk
 rw [show zy w k=x from e,h1] at this;cases this
theorem z72 {h:Hp} {i:Nat} (hi:i<h.st.length) (hw:h.sw.length<9223372036854775808):VP (sE r) 143 [.agg ((eHp h).map .p),nv i] (bv (zeb h (za h.st i))):=by
 refine VP.of (fn:=Tryz.f143) z7 (zu rfl) (by kernel_rfl) rfl rfl rfl ?_
 refine VSt.go z7 false [] 200 rfl AllP.n ?_
 refine z01 (zb 0 (eHp h) rfl rfl) ?_
 refine z09 (ti:=5) h.sw.length [1,2] (fun _=>[]) (fun _=>[]) (fun k=>∀ q,q<k→((zy h.sw q).too==(za h.st i).id)=false) rfl rfl z0l trivial none0 (fun k hk hp=>?_)
 refine VSt.go z7 false [] 200 rfl AllP.n ?_
 refine VSt.cond rfl (fun g=>?_) (fun g=>?_)
 ·have g:=nlt g
  refine VSt.go z7 false [] 200 rfl (AllP.c ‹_› (AllP.c rfl (AllP.c ‹_› (AllP.c rfl AllP.n)))) ?_
  refine VSt.cond rfl (fun h1=>?_) (fun h1=>?_)
  ·have h1:((zy h.sw k).too==(za h.st i).id)=true:=h1
   refine VSt.go z7 false [] 200 rfl AllP.n ?_
   refine EndsP.mk rfl rfl rfl ?_
   show bv true=bv _
   rw [show zeb h (za h.st i)=true from za3 (p:=fun x:Sew=>x.too==(za h.st i).id) g h1]
  ·have h1:((zy h.sw k).too==(za h.st i).id)=false:=h1
   refine VSt.go z7 false [] 200 rfl (AllP.c (by unfold inR;(try simp only [Int.ofNat_eq_natCast]);omega) AllP.n) ?_
   exact ⟨g,by (refine Vw.drop (by repeat (first | exact zo | refine zl rfl rfl rfl ?_ | refine z05 rfl ‹_› (zq _ ‹_›) ?_))),z0d hp h1⟩
 ·have g:k=h.sw.length:=by have:=nge g;omega
  subst g
  refine VSt.go z7 false [] 200 rfl AllP.n ?_
  refine EndsP.mk rfl rfl rfl ?_
  show bv false=bv _
  rw [show zeb h (za h.st i)=false from z6T (p:=fun x:Sew=>x.too==(za h.st i).id) hp]
theorem zbS {h:Hp} {i:Nat} (hi:i<h.st.length) (hw:h.sw.length<9223372036854775808):VP (sE r) 144 [.agg ((eHp h).map .p),nv i] (bv (za6 h (za h.st i))):=by
 refine VP.of (fn:=Tryz.f144) z7 (zu rfl) (by kernel_rfl) rfl rfl rfl ?_
 refine VSt.go z7 false [] 200 rfl AllP.n ?_
 refine z01 (zb 0 (eHp h) rfl rfl) ?_
 refine z09 (ti:=5) h.sw.length [1,2] (fun _=>[]) (fun _=>[]) (fun k=>∀ q,q<k→((zy h.sw q).fro==(za h.st i).id)=false) rfl rfl z0l trivial none0 (fun k hk hp=>?_)
 refine VSt.go z7 false [] 200 rfl AllP.n ?_
 refine VSt.cond rfl (fun g=>?_) (fun g=>?_)
 ·have g:=nlt g
  refine VSt.go z7 false [] 200 rfl (AllP.c ‹_› (AllP.c rfl (AllP.c ‹_› (AllP.c rfl AllP.n)))) ?_
  refine VSt.cond rfl (fun h1=>?_) (fun h1=>?_)
  ·have h1:((zy h.sw k).fro==(za h.st i).id)=true:=h1
   refine VSt.go z7 false [] 200 rfl AllP.n ?_
   refine EndsP.mk rfl rfl rfl ?_
   show bv true=bv _
   rw [show za6 h (za h.st i)=true from za3 (p:=fun x:Sew=>x.fro==(za h.st i).id) g h1]
  ·have h1:((zy h.sw k).fro==(za h.st i).id)=false:=h1
   refine VSt.go z7 false [] 200 rfl (AllP.c (by unfold inR;(try simp only [Int.ofNat_eq_natCast]);omega) AllP.n) ?_
   exact ⟨g,by (refine Vw.drop (by repeat (first | exact zo | refine zl rfl rfl rfl ?_ | refine z05 rfl ‹_› (zq _ ‹_›) ?_))),z0d hp h1⟩
 ·have g:k=h.sw.length:=by have:=nge g;omega
  subst g
  refine VSt.go z7 false [] 200 rfl AllP.n ?_
  refine EndsP.mk rfl rfl rfl ?_
  show bv false=bv _
  rw [show za6 h (za h.st i)=false from z6T (p:=fun x:Sew=>x.fro==(za h.st i).id) hp]
theorem zg4 {b:Bool} {l:List Int} {n:Int} (hl:l.length<9223372036854775808):VP (sE r) 34 [.p (z3E b l),iv n] (iv (z6f l fun x=>x==n)):=by
 refine VP.of (fn:=Tryz.f34) z7 (zu rfl) (by kernel_rfl) rfl rfl rfl ?_
 refine VSt.go z7 false [] 200 rfl AllP.n ?_
 refine z09 (ti:=5) l.length [0,1] (fun _=>[]) (fun _=>[]) (fun k=>∀ q,q<k→(l.getD q 0==n)=false) rfl rfl z0l trivial none0 (fun k hk hp=>?_)
 refine VSt.go z7 false [] 200 rfl AllP.n ?_
 refine VSt.cond rfl (fun g=>?_) (fun g=>?_)
 ·have g:=nlt g
  refine VSt.go z7 false [] 200 rfl (AllP.c ‹_› (AllP.c rfl AllP.n)) ?_
  refine VSt.cond rfl (fun h1=>?_) (fun h1=>?_)
  ·have h1:(l.getD k 0==n)=true:=h1
   refine VSt.go z7 false [] 200 rfl AllP.n ?_
   refine EndsP.mk rfl rfl rfl ?_
   rw [z4e (p:=fun x:Int=>x==n) g h1 hp];rfl
  ·have h1:(l.getD k 0==n)=false:=h1
   refine VSt.go z7 false [] 200 rfl (AllP.c (by unfold inR;(try simp only [Int.ofNat_eq_natCast]);omega) AllP.n) ?_
   exact ⟨g,by (refine Vw.drop (by repeat (first | exact zo | refine zl rfl rfl rfl ?_ | refine z05 rfl ‹_› (zq _ ‹_›) ?_))),z0d hp h1⟩
 ·have g:k=l.length:=by have:=nge g;omega
  subst g
  refine VSt.go z7 false [] 200 rfl AllP.n ?_
  refine EndsP.mk rfl rfl rfl ?_
  rw [z5c (p:=fun x:Int=>x==n) hp];rfl
theorem zg5 {b:Bool} {l:List Int} {n:Int} (hl:l.length<9223372036854775808):VP (sE r) 37 [.p (z3E b l),iv n] (bv (l.contains n)):=by
 have e:decide (0≤z6f l fun x=>x==n)=l.contains n:=by
  rcases z5R l (fun x=>x==n) with h | ⟨k,h⟩
  ·rw [h]
   have h2:=z9G h
   have h3:l.contains n=false:=by
    rw [←Bool.not_eq_true,List.contains_iff_mem]
    intro hm
    rw [←h2] at hm
    have:=(List.mem_filter.1 hm).2
    rw [beq_self_eq_true] at this;cases this
   rw [h3];rfl
  ·obtain ⟨h1,h2,_⟩:=z5Q h
   rw [h]
   have h3:l.contains n=true:=by
    rw [List.contains_iff_mem]
    have h4:l.getD k default∈l:=z0e h1
    rwa [eq_of_beq h2] at h4
   rw [h3]
   exact decide_eq_true (by simp only [Int.ofNat_eq_natCast];omega)
 refine VP.of (fn:=Tryz.f37) z7 (zu rfl) (by kernel_rfl) rfl rfl rfl ?_
 refine VSt.go z7 false [] 200 rfl AllP.n ?_
 refine VSt.pc rfl rfl rfl rfl rfl rfl rfl rfl ((zg4 (b:=b) (n:=n) hl)) ?_
 refine VSt.go z7 false [] 200 rfl AllP.n ?_
 refine EndsP.mk rfl rfl rfl ?_
 show bv _=bv _
 rw [←e]
def zF (h:Hp) (l:List Nat):List Sht:=l.map fun i=>za h.st i
theorem z96 {h:Hp} {l:List Nat} {k:Nat} (hk:k<l.length):za (zF h l) k=za h.st (zA l k):=by
 unfold zF za zA
 rw [z0a (show k<(l.map fun i=>h.st.getD i default).length by rw [List.length_map];exact hk),List.getElem_map,z0a hk]
theorem zcN (m w:Nat):((Int.ofNat (m &&& 1 <<< w)==0):Bool) = !m.testBit w:=by
 rw [Nat.one_shiftLeft]
 cases hb:m.testBit w with
 | true =>
  have h1:(m &&& 2 ^ w).testBit w=true:=by rw [Nat.testBit_and,hb,Nat.testBit_two_pow_self];rfl
  have h2:m &&& 2 ^ w≠0:=fun e=>by rw [e,Nat.zero_testBit] at h1;cases h1
  rw [show (Int.ofNat (m &&& 2 ^ w)==0)=false from by
   rw [←Bool.not_eq_true,beq_iff_eq]
   intro e
   exact h2 (Int.ofNat_inj.1 (show Int.ofNat (m &&& 2 ^ w)=Int.ofNat 0 from e))]
  rfl
 | false =>
  have h1:m &&& 2 ^ w=0:=Nat.eq_of_testBit_eq fun i=>by
   rw [Nat.testBit_and,Nat.testBit_two_pow,Nat.zero_testBit]
   by_cases e:w=i
   ·subst e;rw [hb];rfl
   ·rw [decide_eq_false e,Bool.and_false]
  rw [h1];rfl
end Go.Proofs.YtdpipdniklognaaGreat
/- Walks of the reference: broken. -/
set_option maxRecDepth 100000
namespace Go.Proofs.YtdpipdniklognaaGreat
variable {r:Rm}
theorem ziZ {l:List Sht} {w a:Nat}:∀ {j:Nat},zU (za l (a+j)) w=true→z5f l w a (j+1)=z5f l w a j:=fun {j} h=>by
 have h2:zgX (za l (a+j)) w=true:=by
  unfold zU at h
  unfold zgX
  rw [Nat.testBit_or,h];rfl
 show (z5f l w a j || !zgX (za l (a+j)) w)=_
 rw [h2,Bool.or_comm];rfl
set_option maxHeartbeats 8000000 in
theorem z5F {h:Hp} {b:Bool} {l:List Nat} (hbit:∀ i,i<h.st.length→BitS (za h.st i)) (hl:l.length≤1000) (hin:∀ k,k<l.length→zA l k<h.st.length):VP (sE r) 145 [.agg ((eHp h).map .p),.p (z1v b l)] (iv (Int.ofNat (zO (zF h l) 12))):=by
 have hsl:(zF h l).length=l.length:=List.length_map _
 have hlm:(l.map Int.ofNat).length=l.length:=List.length_map _
 refine VP.of (fn:=Tryz.f145) z7 (zu rfl) (by kernel_rfl) rfl rfl rfl ?_
 refine VSt.go z7 false [] 200 rfl AllP.n ?_
 refine z01 (zb 0 (eHp h) rfl rfl) ?_
 refine z09 (ti:=6) 12 [1,2] (fun w=>[(5,iv (Int.ofNat (zO (zF h l) w)))]) (fun _=>[]) (fun _=>True) rfl rfl (z0K rfl (AImp.refl _) z0l) trivial trivial (fun w hw _=>?_)
 refine VSt.go z7 false [] 200 rfl AllP.n ?_
 refine VSt.cond rfl (fun g=>?_) (fun g=>?_)
 rotate_left
 ·have g:w=12:=by have:=nge (n:=12) g;omega
  subst g
  refine VSt.go z7 false [] 200 rfl AllP.n ?_
  exact EndsP.mk rfl rfl rfl rfl
 have g:=nlt (n:=12) g
 have hb1:1 <<< w<9223372036854775808:=by rw [Nat.one_shiftLeft];exact Nat.lt_of_lt_of_le (Nat.pow_lt_pow_right (by decide) (show w<13 by omega)) (by decide)
 have hw64:w<64:=by omega
 refine VSt.go z7 false [] 200 rfl AllP.n ?_
 refine z09 (ti:=9) l.length [1,2,5,6] (fun k=>[(7,iv (spF (zF h l) w k)),(8,iv (spL (zF h l) w k))]) (fun _=>[]) (fun _=>True) rfl rfl (z0K rfl (AImp.refl _) (z0K rfl (AImp.refl _) z0l)) trivial trivial (fun k hk _=>?_)
 refine VSt.go z7 false [] 200 rfl AllP.n ?_
 refine VSt.cond rfl (fun g2=>?_) (fun g2=>?_)
 ·have g2:k<l.length:=by have:=nlt g2;omega
  have hin2:=hin k g2
  have hB:=hbit _ hin2
  have hm:(za h.st (zA l k)).holes.toNat<9223372036854775808:=by have:=hB.h2;omega
  have hs:=z96 (h:=h) g2
  have hkm:k<(l.map Int.ofNat).length:=by omega
  refine VSt.go z7 false [28] 200 rfl (AllP.c ‹_› (AllP.c rfl AllP.n)) ?_
  refine zi 27 (nv (zA l k)) rfl (z0I z1a) ?_
  refine VSt.go z7 false [31] 200 rfl (AllP.c ‹_› (AllP.c rfl AllP.n)) ?_
  refine zi 30 (iv (Int.ofNat (za h.st (zA l k)).holes.toNat)) rfl (z00 (congrArg iv hB.h1)) ?_
  refine VSt.go z7 false [] 200 rfl (AllP.c ‹_› (AllP.c ‹_› (AllP.c ‹_› (AllP.c ‹_› AllP.n)))) ?_
  have hbb:=zcN (za h.st (zA l k)).holes.toNat w
  have hhs:zU (za (zF h l) k) w=(za h.st (zA l k)).holes.toNat.testBit w:=by rw [hs];rfl
  refine VSt.cond rfl (fun h1=>?_) (fun h1=>?_)
  ·have h1:(!(Int.ofNat ((za h.st (zA l k)).holes.toNat &&& 1 <<< w)==0))=true:=h1
   have hh:zU (za (zF h l) k) w=true:=by rw [hhs];rw [hbb] at h1;simpa using h1
   have e2:spL (zF h l) w (k+1)=Int.ofNat k:=by show (bif zU (za (zF h l) k) w then _ else _)=_;rw [hh];rfl
   refine VSt.go z7 false [] 200 rfl AllP.n ?_
   refine VSt.cond rfl (fun h2=>?_) (fun h2=>?_)
   ·have h2:decide (spF (zF h l) w k<0)=true:=h2
    have e1:spF (zF h l) w (k+1)=Int.ofNat k:=by show (bif zU (za (zF h l) k) w then (bif decide (spF (zF h l) w k<0) then _ else _) else _)=_;rw [hh,h2];rfl
    refine VSt.go z7 false [] 200 rfl (AllP.c (by unfold inR;(try simp only [Int.ofNat_eq_natCast]);omega) AllP.n) ?_
    refine ⟨g2,?_,trivial⟩
    dsimp only
    rw [e1,e2]
    (refine Vw.drop (by repeat (first | exact zo | refine zl rfl rfl rfl ?_ | refine z05 rfl ‹_› (zq _ ‹_›) ?_)))
   ·have h2:decide (spF (zF h l) w k<0)=false:=h2
    have e1:spF (zF h l) w (k+1)=spF (zF h l) w k:=by show (bif zU (za (zF h l) k) w then (bif decide (spF (zF h l) w k<0) then _ else _) else _)=_;rw [hh,h2];rfl
    refine VSt.go z7 false [] 200 rfl (AllP.c (by unfold inR;(try simp only [Int.ofNat_eq_natCast]);omega) AllP.n) ?_
    refine ⟨g2,?_,trivial⟩
    dsimp only
    rw [e1,e2]
    (refine Vw.drop (by repeat (first | exact zo | refine zl rfl rfl rfl ?_ | refine z05 rfl ‹_› (zq _ ‹_›) ?_)))
  ·have h1:(!(Int.ofNat ((za h.st (zA l k)).holes.toNat &&& 1 <<< w)==0))=false:=h1
   have hh:zU (za (zF h l) k) w=false:=by rw [hhs];rw [hbb] at h1;simpa using h1
   have e1:spF (zF h l) w (k+1)=spF (zF h l) w k:=by show (bif zU (za (zF h l) k) w then _ else _)=_;rw [hh];rfl
   have e2:spL (zF h l) w (k+1)=spL (zF h l) w k:=by show (bif zU (za (zF h l) k) w then _ else _)=_;rw [hh];rfl
   refine VSt.go z7 false [] 200 rfl (AllP.c (by unfold inR;(try simp only [Int.ofNat_eq_natCast]);omega) AllP.n) ?_
   refine ⟨g2,?_,trivial⟩
   dsimp only
   rw [e1,e2]
   (refine Vw.drop (by repeat (first | exact zo | refine zl rfl rfl rfl ?_ | refine z05 rfl ‹_› (zq _ ‹_›) ?_)))
 have g3:k=l.length:=by have:=nge g2;omega
 subst g3
 have ebr:zO (zF h l) (w+1)=bif brB (zF h l) w then zO (zF h l) w ||| 1 <<< w else zO (zF h l) w:=rfl
 have hbrk:brB (zF h l) w=(decide (0≤spF (zF h l) w l.length)&&z5f (zF h l) w (spF (zF h l) w l.length).toNat ((spL (zF h l) w l.length).toNat+1 - (spF (zF h l) w l.length).toNat)):=by unfold brB;rw [hsl]
 have q6:zO (zF h l) w ||| 1 <<< w<9223372036854775808:=Nat.lt_of_lt_of_le (Nat.or_lt_two_pow (n:=13) (Nat.lt_of_lt_of_le (zdU _ w) (Nat.pow_le_pow_right (by decide) (by omega))) (by rw [Nat.one_shiftLeft];exact Nat.pow_lt_pow_right (by decide) (by omega))) (by decide)
 have q8:zO (zF h l) w<9223372036854775808:=Nat.lt_of_le_of_lt (Nat.left_le_or) q6
 rcases zkm (zF h l) w l.length with ⟨h3,h4,_⟩ | ⟨a,c,h3,h4,h5,h6,h7,h8,h9,h10⟩
 ·have e1:zO (zF h l) (w+1)=zO (zF h l) w:=by rw [ebr,hbrk,h3];rfl
  refine VSt.go z7 false [40] 200 rfl AllP.n ?_
  refine z03 39 (iv (-1)) rfl (z00 (by rw [h3])) ?_
  refine VSt.go z7 false [10] 200 rfl AllP.n ?_
  refine z03 8 (iv (-1)) rfl (z00 (by rw [h4])) ?_
  refine VSt.go z7 false [] 200 rfl AllP.n ?_
  refine VSt.loop (α :=Unit) (fun _ F L=>F=[(10,iv 0),(8,iv (-1)),(5,iv (Int.ofNat (zO (zF h l) w))),(6,nv w),(1,.p (z1v b l)),(2,.p (.fp (eHp h) 0))]∧L=[]) (fun _=>0) () (by (refine Vw.sub' (z6x (by repeat (first | exact z0p | refine z0A rfl ?_))))) ⟨rfl,rfl⟩ ?_
  rintro _ F L ⟨rfl,rfl⟩
  refine VSt.go z7 false [] 200 rfl AllP.n ?_
  refine VSt.cond rfl (fun g4=>absurd g4 (by decide)) (fun _=>?_)
  refine VSt.go z7 false [] 200 rfl (AllP.c (by unfold inR;(try simp only [Int.ofNat_eq_natCast]);omega) AllP.n) ?_
  refine ⟨g,?_,trivial⟩
  dsimp only
  rw [e1]
  (refine Vw.drop (by repeat (first | exact zo | refine zl rfl rfl rfl ?_ | refine z05 rfl ‹_› (zq _ ‹_›) ?_)))
 ·have hge:decide (0≤Int.ofNat a)=true:=decide_eq_true (by simp only [Int.ofNat_eq_natCast];omega)
  have e1:zO (zF h l) (w+1)=bif z5f (zF h l) w a (c - a) then zO (zF h l) w ||| 1 <<< w else zO (zF h l) w:=by
   have hc:z5f (zF h l) w a (c+1 - a)=z5f (zF h l) w a (c - a):=by
    rw [show c+1 - a=c - a+1 by omega]
    exact ziZ (by rw [show a+(c - a)=c by omega];exact h8)
   rw [ebr,hbrk,h3,h4,hge]
   show (bif z5f (zF h l) w a (c+1 - a) then _ else _)=_
   rw [hc]
  refine VSt.go z7 false [40] 200 rfl AllP.n ?_
  refine z03 39 (nv a) rfl (z0I h3) ?_
  refine VSt.go z7 false [10] 200 rfl AllP.n ?_
  refine z03 40 (nv a) rfl (z0I (by simp only [Int.ofNat_eq_natCast];omega)) ?_
  refine z03 8 (nv c) rfl (z0I h4) ?_
  refine VSt.go z7 false [] 200 rfl AllP.n ?_
  refine VSt.loop (α :=Nat) (fun j F L=>j≤c - a∧F=[(10,nv (a+j)),(8,nv c),(5,iv (Int.ofNat (bif z5f (zF h l) w a (j) then zO (zF h l) w ||| 1 <<< w else zO (zF h l) w))),(6,nv w),(1,.p (z1v b l)),(2,.p (.fp (eHp h) 0))]∧L=[]) (fun j=>c - a - j) 0 (by (refine Vw.sub' (z6x (by repeat (first | exact z0p | refine z0A rfl ?_))))) ⟨Nat.zero_le _,rfl,rfl⟩ ?_
  rintro j F L ⟨hj,rfl,rfl⟩
  have q7:(bif z5f (zF h l) w a j then zO (zF h l) w ||| 1 <<< w else zO (zF h l) w)<9223372036854775808:=by cases z5f (zF h l) w a j <;> assumption
  refine VSt.go z7 false [] 200 rfl AllP.n ?_
  refine VSt.cond rfl (fun g4=>?_) (fun g4=>?_)
  ·have g4:a+j<c:=nlt g4
   have hkl:a+j<l.length:=by omega
   have hin2:=hin _ hkl
   have hB:=hbit _ hin2
   have q1:=hB.h2
   have q2:=hB.u2
   have q3:(za h.st (zA l (a+j))).holes.toNat<9223372036854775808:=by omega
   have q4:(za h.st (zA l (a+j))).unsure.toNat<9223372036854775808:=by omega
   have q5:(za h.st (zA l (a+j))).holes.toNat ||| (za h.st (zA l (a+j))).unsure.toNat<9223372036854775808:=Nat.lt_of_lt_of_le (Nat.or_lt_two_pow (n:=12) (by omega) (by omega)) (by decide)
   have hkm:a+j<(l.map Int.ofNat).length:=by omega
   have hs:=z96 (h:=h) hkl
   have hbb:=zcN ((za h.st (zA l (a+j))).holes.toNat ||| (za h.st (zA l (a+j))).unsure.toNat) w
   have hhs:zgX (za (zF h l) (a+j)) w=((za h.st (zA l (a+j))).holes.toNat ||| (za h.st (zA l (a+j))).unsure.toNat).testBit w:=by rw [hs];rfl
   have e2:z5f (zF h l) w a (j+1)=(z5f (zF h l) w a j || !zgX (za (zF h l) (a+j)) w):=rfl
   refine VSt.go z7 false [52] 200 rfl (AllP.c ‹_› (AllP.c rfl AllP.n)) ?_
   refine zi 51 (nv (zA l (a+j))) rfl (z0I z1a) ?_
   refine VSt.go z7 false [56] 200 rfl (AllP.c ‹_› (AllP.c rfl AllP.n)) ?_
   refine zi 55 (iv (Int.ofNat (za h.st (zA l (a+j))).holes.toNat)) rfl (z00 (congrArg iv hB.h1)) ?_
   refine VSt.go z7 false [58] 200 rfl AllP.n ?_
   refine zi 57 (iv (Int.ofNat (za h.st (zA l (a+j))).unsure.toNat)) rfl (z00 (congrArg iv hB.u1)) ?_
   refine VSt.go z7 false [] 200 rfl (AllP.c ‹_› (AllP.c ‹_› (AllP.c ‹_› (AllP.c ‹_› (AllP.c ‹_› (AllP.c ‹_› AllP.n)))))) ?_
   refine VSt.cond rfl (fun h11=>?_) (fun h11=>?_)
   ·have h11:(Int.ofNat (((za h.st (zA l (a+j))).holes.toNat ||| (za h.st (zA l (a+j))).unsure.toNat) &&& 1 <<< w)==0)=true:=h11
    have h12:(!zgX (za (zF h l) (a+j)) w)=true:=by rw [hhs,←hbb];exact h11
    have e3:(bif z5f (zF h l) w a j then zO (zF h l) w ||| 1 <<< w else zO (zF h l) w) ||| 1 <<< w=bif z5f (zF h l) w a (j+1) then zO (zF h l) w ||| 1 <<< w else zO (zF h l) w:=by
     rw [e2,h12,Bool.or_true]
     cases z5f (zF h l) w a j with
     | true=>show zO (zF h l) w ||| 1 <<< w ||| 1 <<< w=zO (zF h l) w ||| 1 <<< w;rw [Nat.or_assoc,Nat.or_self]
     | false=>rfl
    refine VSt.go z7 false [] 200 rfl (AllP.c ‹_› (AllP.c ‹_› (AllP.c ‹_› (AllP.c ‹_› (AllP.c (by unfold inR;(try simp only [Int.ofNat_eq_natCast]);omega) AllP.n))))) ?_
    refine ⟨j+1,[(10,nv (a+(j+1))),(8,nv c),(5,iv (Int.ofNat (bif z5f (zF h l) w a (j+1) then zO (zF h l) w ||| 1 <<< w else zO (zF h l) w))),(6,nv w),(1,.p (z1v b l)),(2,.p (.fp (eHp h) 0))],[],?_,⟨by omega,rfl,rfl⟩,by omega⟩
    rw [←e3]
    (refine Vw.drop (by repeat (first | exact zo | refine zl rfl rfl rfl ?_ | refine z05 rfl ‹_› (zq _ ‹_›) ?_)))
   ·have h11:(Int.ofNat (((za h.st (zA l (a+j))).holes.toNat ||| (za h.st (zA l (a+j))).unsure.toNat) &&& 1 <<< w)==0)=false:=h11
    have h12:(!zgX (za (zF h l) (a+j)) w)=false:=by rw [hhs,←hbb];exact h11
    refine VSt.go z7 false [] 200 rfl (AllP.c (by unfold inR;(try simp only [Int.ofNat_eq_natCast]);omega) AllP.n) ?_
    refine ⟨j+1,[(10,nv (a+(j+1))),(8,nv c),(5,iv (Int.ofNat (bif z5f (zF h l) w a (j+1) then zO (zF h l) w ||| 1 <<< w else zO (zF h l) w))),(6,nv w),(1,.p (z1v b l)),(2,.p (.fp (eHp h) 0))],[],?_,⟨by omega,rfl,rfl⟩,by omega⟩
    rw [e2,h12,Bool.or_false]
    (refine Vw.drop (by repeat (first | exact zo | refine zl rfl rfl rfl ?_ | refine z05 rfl ‹_› (zq _ ‹_›) ?_)))
  ·have g5:j=c - a:=by have:c≤a+j:=nge g4;omega
   subst g5
   refine VSt.go z7 false [] 200 rfl (AllP.c (by unfold inR;(try simp only [Int.ofNat_eq_natCast]);omega) AllP.n) ?_
   refine ⟨g,?_,trivial⟩
   dsimp only
   rw [e1]
   (refine Vw.drop (by repeat (first | exact zo | refine zl rfl rfl rfl ?_ | refine z05 rfl ‹_› (zq _ ‹_›) ?_)))
end Go.Proofs.YtdpipdniklognaaGreat
