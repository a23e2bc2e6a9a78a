/- The program's LeafNth returns true for all numbers that describe a book and all lists of Ids, without an exception and without changing its arguments: a part of the proof. -/
import Derived.Test.YtdpipdniklognaaGreatVp
import Derived.Test.YtdpipdniklognaaGreatVd
import Derived.WalkKit
import Derived.Test.YtdpipdniklognaaGreatVe
set_option linter.all false
/- The table of this program's types. -/
set_option maxRecDepth 100000
namespace Go.Proofs.YtdpipdniklognaaGreat
section
noncomputable def tb:Tab:=[
 (3,⟨1,false,.int .i64,[.int .i64 (0)]⟩),
 (25,⟨2,true,.struct false [(0,1,false),(1,1,false)],[.lst 0 true 0 fun _=>[],.lst 0 true 0 fun _=>[]]⟩),
 (74,⟨6,true,.struct true [(0,1,false),(1,1,false),(2,1,false),(3,1,false),(4,1,false),(5,1,false)],[.int .i64 (0),.int .i64 (0),.int .i64 (0),.int .i64 (0),.int .i64 (0),.int .i64 (0)]⟩),
 (58,⟨2,true,.struct true [(0,1,false),(1,1,false)],[.int .i64 (0),.int .i64 (0)]⟩),
 (37,⟨1,false,.slice 3 1,[.lst 0 true 0 fun _=>[]]⟩),
 (22,⟨1,false,.slice 74 6,[.lst 0 true 0 fun _=>[]]⟩),
 (23,⟨1,false,.slice 58 2,[.lst 0 true 0 fun _=>[]]⟩),
 (28,⟨1,false,.int .i64,[.int .i64 (0)]⟩),
 (32,⟨2,true,.struct true [(0,1,false),(1,1,false)],[.int .i64 (0),.int .i64 (0)]⟩),
 (113,⟨1,false,.int .i64,[.int .i64 (0)]⟩),
 (66,⟨3,true,.arr 3 1 false,[.int .i64 (0),.int .i64 (0),.int .i64 (0)]⟩),
 (27,⟨5,true,.struct true [(0,1,false),(1,1,false),(2,1,false),(3,1,false),(4,1,false)],[.int .i64 (0),.int .i64 (0),.int .i64 (0),.int .i64 (0),.int .i64 (0)]⟩),
 (86,⟨1,false,.slice 37 1,[.lst 0 true 0 fun _=>[]]⟩),
 (51,⟨4,true,.struct false [(0,1,false),(1,1,false),(2,1,false),(3,1,false)],[.lst 0 true 0 fun _=>[],.lst 0 true 0 fun _=>[],.lst 0 true 0 fun _=>[],.lst 0 true 0 fun _=>[]]⟩),
 (185,⟨1,false,.int .u64,[.int .u64 (0)]⟩),
 (106,⟨1,false,.func,[.nilf]⟩),
 (159,⟨2,true,.struct false [(0,1,false),(1,1,false)],[.lst 0 true 0 fun _=>[],.int .i64 (0)]⟩),
 (4,⟨1,false,.bool,[.bool false]⟩),
 (52,⟨2,true,.arr 2 1 false,[.int .i64 (0),.int .i64 (0)]⟩),
 (149,⟨1,false,.int .u64,[.int .u64 (0)]⟩),
 (189,⟨1,false,.ptr,[.nilp]⟩),
 (108,⟨1,false,.mapA (.bool false),[.nilm]⟩),
 (116,⟨1,false,.slice 159 2,[.lst 0 true 0 fun _=>[]]⟩),
 (82,⟨1,false,.map,[.nilm]⟩),
 (49,⟨1,false,.slice 52 2,[.lst 0 true 0 fun _=>[]]⟩),
 (179,⟨1,false,.int .u64,[.int .u64 (0)]⟩),
 (177,⟨1,false,.int .u32,[.int .u32 (0)]⟩),
 (48,⟨1,false,.slice 66 3,[.lst 0 true 0 fun _=>[]]⟩),
 (5,⟨1,false,.int .u8,[.int .u8 (0)]⟩),
 (42,⟨1,false,.func,[.nilf]⟩),
 (119,⟨1,false,.func,[.nilf]⟩),
 (121,⟨1,false,.mapI,[.nilm]⟩),
 (125,⟨1,false,.func,[.nilf]⟩),
 (141,⟨1,false,.func,[.nilf]⟩),
 (146,⟨1,false,.func,[.nilf]⟩),
 (169,⟨1,false,.int .i64,[.int .i64 (0)]⟩),
 (157,⟨1,false,.slice 4 1,[.lst 0 true 0 fun _=>[]]⟩),
 (9,⟨1,false,.str,[.str ⟨#[]⟩]⟩),
 (155,⟨1,false,.func,[.nilf]⟩),
 (162,⟨1,false,.func,[.nilf]⟩)]
theorem za {r:Rm}:zM (sE r) tb=true:=by kernel_rfl
def wth (n lo hi:Int):Bool:=decide (lo≤n)&&decide (n≤hi)
theorem wth_iff {n lo hi:Int}:wth n lo hi=true ↔ lo≤n∧n≤hi:=by
 unfold wth;rw [yw,decide_eq_true_iff,decide_eq_true_iff]
theorem zt {α : Type} {l:List α} {k:Nat} {d : α} (h:k<l.length):l.getD k d=l[k]:=by
 rw [List.getD_eq_getElem?_getD,List.getElem?_eq_getElem h];rfl
theorem z09 {α : Type} {l:List α} {k:Nat} {d : α} (h:k<l.length):l.getD k d∈l:=by
 rw [zt h];exact List.getElem_mem h
theorem z0y {α : Type} {l:List α} {x d : α} (h:x∈l):∃ k,k<l.length∧l.getD k d=x:=by
 obtain ⟨k,hk,e⟩:=List.mem_iff_getElem.1 h
 exact ⟨k,hk,by rw [zt hk];exact e⟩
def zqk (p:Nat→Bool) (n:Nat):Bool:=(List.range n).all p
theorem allB_iff {p:Nat→Bool} {n:Nat}:zqk p n=true ↔ ∀ k,k<n→p k=true:=by
 unfold zqk;rw [List.all_eq_true]
 exact ⟨fun h k hk=>h k (List.mem_range.2 hk),fun h k hk=>h k (List.mem_range.1 hk)⟩
theorem zbg {p:Nat→Bool} {n k:Nat} (hk:k<n) (h:p k=false):zqk p n=false:=by
 rw [←Bool.not_eq_true]
 intro h1
 rw [allB_iff.1 h1 k hk] at h;cases h
def z7c {α : Type} (l:List α) (p : α → Bool):Int:=match l.findIdx? p with
 | some k=>k
 | none=> -1
section
variable {α : Type} [Inhabited α]
theorem zow {l:List α} {k:Nat} (h:k<l.length):l.getD k default=l[k]:=by
 rw [List.getD_eq_getElem?_getD,List.getElem?_eq_getElem h];rfl
theorem z7I {l:List α} {k:Nat} {p : α → Bool} (hk:k<l.length) (h:p (l.getD k default)=true) (hb:∀ i,i<k→p (l.getD i default)=false):z7c l p=k:=by
 unfold z7c
 have:l.findIdx? p=some k:=by
  rw [List.findIdx?_eq_some_iff_getElem]
  refine ⟨hk,by rw [zow hk] at h;exact h,fun j hj=>?_⟩
  have:=hb j hj
  rw [zow (by omega)] at this
  simp [this]
 rw [this]
theorem z8O {l:List α} {p : α → Bool} (hb:∀ i,i<l.length→p (l.getD i default)=false):z7c l p = -1:=by
 unfold z7c
 have:l.findIdx? p=none:=by
  rw [List.findIdx?_eq_none_iff]
  intro x hx
  obtain ⟨k,hk,rfl⟩:=List.mem_iff_getElem.1 hx
  have:=hb k hk
  rwa [zow hk] at this
 rw [this]
theorem z4C {l:List α} {p : α → Bool} {k:Nat} (h:z7c l p=Int.ofNat k):k<l.length∧p (l.getD k default)=true∧∀ i,i<k→p (l.getD i default)=false:=by
 unfold z7c at h
 cases hf:l.findIdx? p with
 | none=>rw [hf] at h;exact absurd h (by intro h;cases h)
 | some i =>
  rw [hf] at h
  have:i=k:=Int.ofNat_inj.1 h
  subst this
  rw [List.findIdx?_eq_some_iff_getElem] at hf
  obtain ⟨h1,h2,h3⟩:=hf
  refine ⟨h1,by rw [zow h1];exact h2,fun j hj=>?_⟩
  rw [zow (by omega)]
  simpa using h3 j hj
omit [Inhabited α] in
theorem zaP {l:List α} {p : α → Bool} (h:z7c l p = -1):l.filter (fun x=>!p x)=l:=by
 unfold z7c at h
 cases hf:l.findIdx? p with
 | some i=>rw [hf] at h;exact absurd h (by intro h;cases h)
 | none =>
  rw [List.findIdx?_eq_none_iff] at hf
  exact List.filter_eq_self.2 fun x hx=>by rw [hf x hx];rfl
omit [Inhabited α] in
theorem z4D (l:List α) (p : α → Bool):z7c l p = -1∨∃ k,z7c l p=Int.ofNat k:=by
 unfold z7c
 split
 ·exact .inr ⟨_,rfl⟩
 ·exact .inl rfl
theorem z6n (l:List α) {k:Nat} (h:k<l.length):l.take (k+1)=l.take k++[l.getD k default]:=by
 rw [List.take_add_one,zow h,List.getElem?_eq_getElem h];rfl
theorem z3h (l:List α) (q : α → Bool) {k:Nat} (h:k<l.length):(l.take (k+1)).filter q=bif q (l.getD k default) then (l.take k).filter q++[l.getD k default] else (l.take k).filter q:=by
 rw [z6n l h,List.filter_append]
 cases hq:q (l.getD k default) with
 | true=>rw [List.filter_cons_of_pos hq];rfl
 | false=>rw [List.filter_cons_of_neg (by rw [hq];decide)];simp
theorem z9x {l:List α} {p : α → Bool}:∀ {k:Nat},k≤l.length→(∀ i,i<k→p (l.getD i default)=false)→(l.take k).filter (fun x=>!p x)=l.take k
 | 0,_,_=>rfl
 | k+1,h,hp=>by
  rw [z3h l _ (by omega),z9x (by omega) (fun i hi=>hp i (by omega)),hp k (by omega),z6n l (by omega)];rfl
structure DelInv (l:List α) (p : α → Bool) (j i:Nat) (g:Nat→α):Prop where
 le:j≤l.length
 lt:i<j
 len:i=((l.take j).filter (fun x=>!p x)).length
 done:∀ q,q<i→g q=((l.take j).filter (fun x=>!p x)).getD q default
 rest:∀ q,j≤q→g q=l.getD q default
theorem DelInv.start {l:List α} {p : α → Bool} {k0:Nat} (h:k0<l.length∧p (l.getD k0 default)=true∧∀ i,i<k0→p (l.getD i default)=false):DelInv l p (k0+1) k0 (fun q=>l.getD q default):=by
 have e1:(l.take (k0+1)).filter (fun x=>!p x)=l.take k0:=by
  rw [z3h l _ h.1,h.2.1,z9x (by omega) h.2.2];rfl
 refine ⟨h.1,Nat.lt_succ_self _,?_,fun q hq=>?_,fun q _=>rfl⟩
 ·rw [e1,List.length_take];omega
 ·rw [e1]
  simp only [List.getD_eq_getElem?_getD]
  rw [List.getElem?_take,if_pos hq]
theorem DelInv.skip {l:List α} {p : α → Bool} {j i:Nat} {g:Nat→α} (h:DelInv l p j i g) (hj:j<l.length) (hp:p (l.getD j default)=true):DelInv l p (j+1) i g:=by
 have e1:(l.take (j+1)).filter (fun x=>!p x)=(l.take j).filter (fun x=>!p x):=by
  rw [z3h l _ hj,hp];rfl
 exact ⟨hj,Nat.lt_succ_of_lt h.lt,by rw [e1];exact h.len,fun q hq=>by rw [e1];exact h.done q hq,fun q h1=>h.rest q (by omega)⟩
theorem DelInv.keep {l:List α} {p : α → Bool} {j i:Nat} {g:Nat→α} (h:DelInv l p j i g) (hj:j<l.length) (hp:p (l.getD j default)=false):DelInv l p (j+1) (i+1) (fun q=>if q=i then g j else g q):=by
 have e1:(l.take (j+1)).filter (fun x=>!p x)=(l.take j).filter (fun x=>!p x)++[l.getD j default]:=by
  rw [z3h l _ hj,hp];rfl
 have hij:=h.lt
 refine ⟨hj,by omega,by rw [e1,List.length_append,←h.len];rfl,fun q hq=>?_,fun q h1=>?_⟩
 ·rw [e1]
  simp only [List.getD_eq_getElem?_getD]
  by_cases c:q=i
  ·subst c
   rw [if_pos rfl,List.getElem?_append_right (by rw [←h.len];exact ym _),←h.len,Nat.sub_self,h.rest j (ym _)];rfl
  ·rw [if_neg c,List.getElem?_append_left (by rw [←h.len];omega),h.done q (by omega),List.getD_eq_getElem?_getD]
 ·show (if q=i then _ else _)=_
  rw [if_neg (by omega),h.rest q (by omega)]
theorem DelInv.all {l:List α} {p : α → Bool} {i:Nat} {g:Nat→α} (h:DelInv l p l.length i g):i=(l.filter (fun x=>!p x)).length∧∀ q,q<i→g q=(l.filter (fun x=>!p x)).getD q default:=by
 have h1:=h.len
 have h2:=h.done
 rw [List.take_length] at h1 h2
 exact ⟨h1,h2⟩
end
theorem nlt {k n:Nat} (h:decide (Int.ofNat k<Int.ofNat n)=true):k<n:=by
 have:=of_decide_eq_true h;simp only [yl] at this;omega
theorem nge {k n:Nat} (h:decide (Int.ofNat k<Int.ofNat n)=false):n≤k:=by
 have:=of_decide_eq_false h;simp only [yl] at this;omega
theorem n0 {k:Nat} (h:decide ((0:Int)<Int.ofNat k)=true):0<k:=by
 have:=of_decide_eq_true h;simp only [yl] at this;omega
theorem n0' {k:Nat} (h:decide ((0:Int)<Int.ofNat k)=false):k=0:=by
 have:=of_decide_eq_false h;simp only [yl] at this;omega
theorem nt {b:Bool} (h:(!b)=true):b=false:=by cases b <;> first | rfl | cases h
theorem nf {b:Bool} (h:(!b)=false):b=true:=by cases b <;> first | rfl | cases h
theorem zhL {k:Nat} (h:0<k):AImp (iv (Int.ofNat k - 1)) (nv (k - 1)):=z2y (by simp only [yl];omega)
theorem z16 {p:Nat→Prop} {k:Nat} (h:∀ i,i<k→p i) (hk:p k):∀ i,i<k+1→p i:=fun i hi=>by
 by_cases e:i=k
 ·subst e;exact hk
 ·exact h i (by omega)
theorem none0 {p:Nat→Prop}:∀ i,i<0→p i:=fun i hi=>absurd hi (Nat.not_lt_zero i)
structure Sht where
 id:Int
 paper:Int
 first:Int
 catch_:Int
 holes:Int
 unsure:Int
structure Sew where
 fro:Int
 too:Int
instance:Inhabited Sht:=⟨⟨0,0,0,0,0,0⟩⟩
instance:Inhabited Sew:=⟨⟨0,0⟩⟩
def zi (l:List Sht) (k:Nat):Sht:=l.getD k default
def zB (l:List Sew) (k:Nat):Sew:=l.getD k default
def zX (s:Sht):List PV:=[.int .i64 s.id,.int .i64 s.paper,.int .i64 s.first,.int .i64 s.catch_,.int .i64 s.holes,.int .i64 s.unsure]
def zgk (x:Sew):List PV:=[.int .i64 x.fro,.int .i64 x.too]
def fS (l:List Sht):Nat→List PV:=fun k=>zX (zi l k)
def fW (l:List Sew):Nat→List PV:=fun k=>zgk (zB l k)
def z0M (b:Bool) (l:List Sht):PV:=.lst 74 b l.length (fS l)
def z92 (b:Bool) (l:List Sew):PV:=.lst 58 b l.length (fW l)
def z1V (b:Bool) (l:List Int):PV:=.lst 3 b l.length fun k=>[.int .i64 (l.getD k 0)]
structure Hp where
 st:List Sht
 stB:Bool
 sw:List Sew
 swB:Bool
def eHp (h:Hp):List PV:=[z0M h.stB h.st,z92 h.swB h.sw]
theorem z9a {a b:Nat} (h:a<b):Nat.blt a b=true:=by simpa using h
theorem z9q {a b:Nat} (h:¬ a<b):Nat.blt a b=false:=by rw [←Bool.not_eq_true];simpa using h
variable {r:Rm}
theorem PureA.conv {E:Env} {F:VK} {L:VS} {src dst:TypeId} {x:Operand} {ka kc:IntKind} {a c:Int} (hx:av F x=some (.p (.int ka a))) (h:(ob (E.ti.get src) fun _=>ob (E.ti.get dst) fun i=>z97 i.desc (.int ka a))=some (.int kc c)):PureA E F L (.convert src dst x) (.p (.int kc c)):=fun T S Z j h2 h3=>by
 obtain ⟨v,h4,h5⟩:=h3.ev hx
 cases h5 with
 | p h5 =>
  cases h5
  refine ⟨.int kc c,fun cF dF=>?_,.p (.int _ _)⟩
  show ob (ob (E.ti.get src) fun _=>ob (T.ev x) fun a=>ob (E.ti.get dst) fun i=>z97 i.desc a) (fun v=>some (v,S))=_
  rw [h4]
  show ob (ob (E.ti.get src) fun _=>ob (E.ti.get dst) fun i=>z97 i.desc (.int ka a)) (fun v=>some (v,S))=_
  rw [h];rfl
theorem PureA.bin {E:Env} {F:VK} {L:VS} {op:BinOp} {t kd:TypeId} {x y:Operand} {ka kb kc:IntKind} {a b c:Int} (hx:av F x=some (.p (.int ka a))) (hy:av F y=some (.p (.int kb b))) (h:zY E op t (.int ka a) (.int kb b)=some (.int kc c)):PureA E F L (.binOp op t x y kd) (.p (.int kc c)):=fun T S Z j h2 h3=>by
 obtain ⟨v,h4,h5⟩:=h3.ev hx
 obtain ⟨w,h6,h7⟩:=h3.ev hy
 cases h5 with
 | p h5 =>
  cases h5
  cases h7 with
  | p h7 =>
   cases h7
   refine ⟨.int kc c,fun cF dF=>?_,.p (.int _ _)⟩
   show ob (ob (T.ev x) fun a=>ob (T.ev y) fun b=>zY E op t a b) (fun v=>some (v,S))=_
   rw [h4,h6]
   show ob (zY E op t (.int ka a) (.int kb b)) (fun v=>some (v,S))=_
   rw [h];rfl
theorem VP.to {E:Env} {f:FuncId} {args:List AV} {a b:AV} (h:VP E f args a) (hi:AImp a b) (ho:b.only (fun _=>false)=true):VP E f args b:=⟨ho,fun S Z j vs h1 h2 h3=>by
 obtain ⟨n,v,S',k1,a',L',Z',j',k2,k3,k4,k5,k6,rfl,rfl⟩:=h.2 S Z j vs h1 h2 h3
 exact ⟨n,v,S',k1,b,[],Z',j',k2,hi _ _ _ _ _ k3,k4,k5,k6,rfl,rfl⟩⟩
theorem zdI {n:Int} (h:0≤n):∃ m:Nat,n=Int.ofNat m:=⟨n.toNat,(Int.toNat_of_nonneg h).symm⟩
theorem wrap_u64 {n:Nat} (h:n<9223372036854775808):IntKind.u64.wrap (Int.ofNat n)=Int.ofNat n:=by
 simp only [IntKind.wrap,IntKind.bits,IntKind.signed,Bool.false_and,yl]
 rw [if_neg (by decide)]
 omega
theorem wrap_i64 {n:Nat} (h:n<9223372036854775808):IntKind.i64.wrap (Int.ofNat n)=Int.ofNat n:=wrap64 (by simp only [yl];omega) (by simp only [yl];omega)
theorem zoJ {i j:Nat} (h:i+j<9223372036854775808):(ob ((sE r).ti.get 3) fun _=>ob ((sE r).ti.get 149) fun d=>z97 d.desc (.int .i64 (Int.ofNat i+Int.ofNat j)))=some (.int .u64 (Int.ofNat (i+j))):=by
 show some (Value.int .u64 (IntKind.u64.wrap (Int.ofNat (i+j))))=_
 rw [wrap_u64 h]
theorem zoL {n:Nat} (h:n<9223372036854775808):(ob ((sE r).ti.get 149) fun _=>ob ((sE r).ti.get 3) fun d=>z97 d.desc (.int .u64 (Int.ofNat n)))=some (.int .i64 (Int.ofNat n)):=by
 show some (Value.int .i64 (IntKind.i64.wrap (Int.ofNat n)))=_
 rw [wrap_i64 h]
theorem zl2 {E:Env} {t:TypeId} {n:Nat}:zY E .shr t (.int .u64 (Int.ofNat n)) (.int .u64 1)=some (.int .u64 (Int.ofNat (n / 2))):=by
 show some (Value.int .u64 ((Int.ofNat n).fdiv 2))=_
 rw [yl,Int.fdiv_eq_ediv_of_nonneg _ (by decide)]
 rfl
end
section
variable {r:Rm}
theorem zgf (n lo hi:Int):VP (sE r) 102 [iv n,iv lo,iv hi] (bv (wth n lo hi)):=by
 refine VP.of (fn:=Tryz.f102) za (zD rfl) (by kernel_rfl) rfl rfl rfl ?_
 refine VSt.go za false [] 200 rfl AllP.n ?_
 refine zb 10 rfl (fun h=>?_) (fun h=>?_)
 ·refine VSt.go za false [] 200 rfl AllP.n ?_
  refine EndsP.mk rfl rfl rfl ?_
  show bv _=bv _
  unfold wth;rw [show decide (lo≤n)=true from h];rfl
 ·refine VSt.go za false [] 200 rfl AllP.n ?_
  refine EndsP.mk rfl rfl rfl ?_
  show bv _=bv _
  unfold wth;rw [show decide (lo≤n)=false from h];rfl
theorem z9I (n:Int):VP (sE r) 115 [iv n] (bv (wth n 1 999)):=by
 refine VP.of (fn:=Tryz.f115) za (zD rfl) (by kernel_rfl) rfl rfl rfl ?_
 refine VSt.go za false [] 200 rfl AllP.n ?_
 refine VSt.pc rfl rfl rfl rfl rfl rfl rfl rfl ((zgf n 1 999)) ?_
 refine VSt.go za false [] 200 rfl AllP.n ?_
 exact EndsP.mk rfl rfl rfl rfl
theorem zjV {a b:Nat}:a ^^^ b=0 ↔ a=b:=by
 refine ⟨fun h=>Nat.eq_of_testBit_eq fun i=>?_,fun h=>by rw [h,Nat.xor_self]⟩
 have:=congrArg (fun n=>n.testBit i) h
 simp only [Nat.testBit_xor,Nat.zero_testBit] at this
 cases h1:a.testBit i <;> cases h2:b.testBit i <;> rw [h1,h2] at this <;> first | rfl | cases this
theorem zgv (m:Nat):((Int.ofNat (m ^^^ (m &&& 4095))==0):Bool)=decide (m≤4095):=by
 have h1:m &&& 4095=m % 4096:=Nat.and_two_pow_sub_one_eq_mod m 12
 rw [h1,Bool.eq_iff_iff,beq_iff_eq,decide_eq_true_iff]
 have h2:m ^^^ (m % 4096)=0 ↔ m=m % 4096:=zjV
 rw [show (Int.ofNat (m ^^^ (m % 4096))=0) ↔ m ^^^ (m % 4096)=0 from by simp only [yl];omega,h2]
 omega
theorem zgM {m:Nat} (hm:m<9223372036854775808):VP (sE r) 149 [iv (Int.ofNat m),iv 4095] (bv (decide (m≤4095))):=by
 refine VP.of (fn:=Tryz.f149) za (zD rfl) (by kernel_rfl) rfl rfl rfl ?_
 refine VSt.go za false [] 200 rfl ((AllP.c hm (AllP.c (by decide) AllP.n))) ?_
 refine EndsP.mk rfl rfl rfl ?_
 show bv _=bv _
 rw [←zgv]
theorem z9H {n:Int} (hn:inR n):VP (sE r) 116 [iv n] (bv (wth n 0 4095)):=by
 by_cases h0:0≤n
 ·obtain ⟨m,rfl⟩:=zdI h0
  have hm:m<9223372036854775808:=by have:=hn.2;simp only [yl] at this;omega
  refine VP.of (fn:=Tryz.f116) za (zD rfl) (by kernel_rfl) rfl rfl rfl ?_
  refine VSt.go za false [] 200 rfl AllP.n ?_
  refine zb 5 rfl (fun h=>?_) (fun h=>?_)
  rotate_left
  ·exact absurd (show decide (0≤Int.ofNat m)=false from h) (by rw [decide_eq_true h0];decide)
  refine VSt.go za false [] 200 rfl AllP.n ?_
  refine VSt.pc rfl rfl rfl rfl rfl rfl rfl rfl ((zgM hm)) ?_
  refine VSt.go za false [] 200 rfl AllP.n ?_
  refine EndsP.mk rfl rfl rfl ?_
  show bv _=bv _
  unfold wth
  rw [decide_eq_true h0,Bool.true_and]
  congr 2
  exact propext ⟨fun h=>by simp only [yl];omega,fun h=>by simp only [yl] at h;omega⟩
 ·refine VP.of (fn:=Tryz.f116) za (zD rfl) (by kernel_rfl) rfl rfl rfl ?_
  refine VSt.go za false [] 200 rfl AllP.n ?_
  refine zb 5 rfl (fun h=>?_) (fun h=>?_)
  ·exact absurd (of_decide_eq_true (show decide (0≤n)=true from h)) h0
  refine VSt.go za false [] 200 rfl AllP.n ?_
  refine EndsP.mk rfl rfl rfl ?_
  show bv _=bv _
  unfold wth
  rw [decide_eq_false h0];rfl
def zpj (a b:Int):Bool:=!(Int.ofNat (a.toNat &&& b.toNat)==0)
theorem zkP {m k:Nat} (hm:m<9223372036854775808) (hk:k<9223372036854775808):VP (sE r) 117 [iv (Int.ofNat m),iv (Int.ofNat k)] (bv (zpj (Int.ofNat m) (Int.ofNat k))):=by
 refine VP.of (fn:=Tryz.f117) za (zD rfl) (by kernel_rfl) rfl rfl rfl ?_
 refine VSt.go za false [] 200 rfl (AllP.c ‹_› (AllP.c ‹_› AllP.n)) ?_
 exact EndsP.mk rfl rfl rfl rfl
structure OkS (s:Sht):Prop where
 id:wth s.id 1 99=true
 paper:wth s.paper 1 999=true
 first:wth s.first 0 999=true
 catch_:wth s.catch_ 0 999=true
 holes:wth s.holes 0 4095=true
 unsure:wth s.unsure 0 4095=true
 apart:zpj s.holes s.unsure=false
open Classical in
noncomputable def ckS (s:Sht):Int:=if OkS s then 0 else 50
theorem z5m {s:Sht} (h:¬ OkS s):ckS s=50:=if_neg h
theorem zli {s:Sht} (h:OkS s):ckS s=0:=if_pos h
theorem zpL (s:Sht):(OkS s∧ckS s=0)∨(¬ OkS s∧ckS s=50):=by
 unfold ckS
 by_cases h:OkS s
 ·exact .inl ⟨h,if_pos h⟩
 ·exact .inr ⟨h,if_neg h⟩
structure SzS (s:Sht):Prop where
 holes:inR s.holes
 unsure:inR s.unsure
theorem OkS.sz {s:Sht} (h:OkS s):SzS s:=by
 have h1:=wth_iff.1 h.holes
 have h2:=wth_iff.1 h.unsure
 exact ⟨⟨by omega,by omega⟩,⟨by omega,by omega⟩⟩
set_option maxHeartbeats 4000000 in
theorem zpM {s:Sht} (hz:SzS s):VP (sE r) 59 [.agg ((zX s).map .p)] (iv (ckS s)):=by
 refine VP.of (fn:=Tryz.f59) za (zD rfl) (by kernel_rfl) rfl rfl rfl ?_
 refine VSt.go za false [] 200 rfl AllP.n ?_
 refine VSt.pc rfl rfl rfl rfl rfl rfl rfl rfl ((zgf s.id 1 99)) ?_
 refine VSt.go za false [] 200 rfl AllP.n ?_
 refine zb 7 rfl (fun a1=>?_) (fun a1=>?_)
 ·refine VSt.go za false [] 200 rfl AllP.n ?_
  refine EndsP.mk rfl rfl rfl ?_
  rw [z5m fun h=>by have:=h.id;rw [nt a1] at this;cases this];rfl
 refine VSt.go za false [] 200 rfl AllP.n ?_
 refine VSt.pc rfl rfl rfl rfl rfl rfl rfl rfl ((z9I s.paper)) ?_
 refine VSt.go za false [] 200 rfl AllP.n ?_
 refine zb 13 rfl (fun a2=>?_) (fun a2=>?_)
 ·refine VSt.go za false [] 200 rfl AllP.n ?_
  refine EndsP.mk rfl rfl rfl ?_
  rw [z5m fun h=>by have:=h.paper;rw [nt a2] at this;cases this];rfl
 refine VSt.go za false [] 200 rfl AllP.n ?_
 refine VSt.pc rfl rfl rfl rfl rfl rfl rfl rfl ((zgf s.first 0 999)) ?_
 refine VSt.go za false [] 200 rfl AllP.n ?_
 refine zb 19 rfl (fun a3=>?_) (fun a3=>?_)
 ·refine VSt.go za false [] 200 rfl AllP.n ?_
  refine EndsP.mk rfl rfl rfl ?_
  rw [z5m fun h=>by have:=h.first;rw [nt a3] at this;cases this];rfl
 refine VSt.go za false [] 200 rfl AllP.n ?_
 refine VSt.pc rfl rfl rfl rfl rfl rfl rfl rfl ((zgf s.catch_ 0 999)) ?_
 refine VSt.go za false [] 200 rfl AllP.n ?_
 refine zb 25 rfl (fun a4=>?_) (fun a4=>?_)
 ·refine VSt.go za false [] 200 rfl AllP.n ?_
  refine EndsP.mk rfl rfl rfl ?_
  rw [z5m fun h=>by have:=h.catch_;rw [nt a4] at this;cases this];rfl
 refine VSt.go za false [] 200 rfl AllP.n ?_
 refine VSt.pc rfl rfl rfl rfl rfl rfl rfl rfl ((z9H hz.holes)) ?_
 refine VSt.go za false [] 200 rfl AllP.n ?_
 refine zb 31 rfl (fun a5=>?_) (fun a5=>?_)
 ·refine VSt.go za false [] 200 rfl AllP.n ?_
  refine EndsP.mk rfl rfl rfl ?_
  rw [z5m fun h=>by have:=h.holes;rw [nt a5] at this;cases this];rfl
 refine VSt.go za false [] 200 rfl AllP.n ?_
 refine VSt.pc rfl rfl rfl rfl rfl rfl rfl rfl ((z9H hz.unsure)) ?_
 refine VSt.go za false [] 200 rfl AllP.n ?_
 refine zb 37 rfl (fun a6=>?_) (fun a6=>?_)
 ·refine VSt.go za false [] 200 rfl AllP.n ?_
  refine EndsP.mk rfl rfl rfl ?_
  rw [z5m fun h=>by have:=h.unsure;rw [nt a6] at this;cases this];rfl
 have h5:=wth_iff.1 (nf a5)
 have h6:=wth_iff.1 (nf a6)
 obtain ⟨i1,i2,i3,i4,i5,i6⟩:=s
 obtain ⟨m,rfl⟩:=zdI h5.1
 obtain ⟨k,rfl⟩:=zdI h6.1
 have hm:m<9223372036854775808:=by have:=h5.2;simp only [yl] at this;omega
 have hk:k<9223372036854775808:=by have:=h6.2;simp only [yl] at this;omega
 refine VSt.go za false [] 200 rfl AllP.n ?_
 refine VSt.pc rfl rfl rfl rfl rfl rfl rfl rfl ((zkP hm hk)) ?_
 refine VSt.go za false [] 200 rfl AllP.n ?_
 refine VSt.cond rfl (fun a7=>?_) (fun a7=>?_)
 ·refine VSt.go za false [] 200 rfl AllP.n ?_
  refine EndsP.mk rfl rfl rfl ?_
  rw [z5m fun h=>by have:=h.apart;rw [a7] at this;cases this];rfl
 ·refine VSt.go za false [] 200 rfl AllP.n ?_
  refine EndsP.mk rfl rfl rfl ?_
  rw [zli ⟨nf a1,nf a2,nf a3,nf a4,nf a5,nf a6,a7⟩];rfl
theorem zcb (a:Int):VP (sE r) 171 [iv a] (bv false):=by
 refine VP.of (fn:=Tryz.f171) za (zD rfl) (by kernel_rfl) rfl rfl rfl ?_
 refine VSt.go za false [] 200 rfl AllP.n ?_
 refine EndsP.mk rfl rfl rfl ?_
 show bv (!(a==a))=_
 rw [beq_self_eq_true];rfl
def zjT (a b:Int):Int:=if a<b then -1 else if b<a then 1 else 0
theorem zo3 (a b:Int):VP (sE r) 133 [iv a,iv b] (iv (zjT a b)):=by
 refine VP.of (fn:=Tryz.f133) za (zD rfl) (by kernel_rfl) rfl rfl rfl ?_
 refine VSt.go za false [] 200 rfl AllP.n ?_
 refine VSt.pc rfl rfl rfl rfl rfl rfl rfl rfl ((zcb a)) ?_
 refine VSt.go za false [] 200 rfl AllP.n ?_
 refine VSt.pc rfl rfl rfl rfl rfl rfl rfl rfl ((zcb b)) ?_
 refine VSt.go za false [] 200 rfl AllP.n ?_
 refine VSt.cond rfl (fun h=>absurd h (by decide)) (fun _=>?_)
 refine VSt.go za false [] 200 rfl AllP.n ?_
 refine VSt.cond rfl (fun h=>absurd h (by decide)) (fun _=>?_)
 refine VSt.go za false [] 200 rfl AllP.n ?_
 refine VSt.cond rfl (fun h=>?_) (fun h=>?_)
 ·refine VSt.go za false [] 200 rfl AllP.n ?_
  refine EndsP.mk rfl rfl rfl ?_
  show iv _=iv _
  unfold zjT;rw [if_pos (of_decide_eq_true h)]
 ·refine VSt.go za false [] 200 rfl AllP.n ?_
  have h:=of_decide_eq_false h
  refine VSt.cond rfl (fun h2=>?_) (fun h2=>?_)
  ·refine VSt.go za false [] 200 rfl AllP.n ?_
   refine EndsP.mk rfl rfl rfl ?_
   show iv _=iv _
   unfold zjT;rw [if_neg h,if_pos (of_decide_eq_true h2)]
  ·refine VSt.go za false [] 200 rfl AllP.n ?_
   refine EndsP.mk rfl rfl rfl ?_
   show iv _=iv _
   unfold zjT;rw [if_neg h,if_neg (of_decide_eq_false h2)]
theorem cmp_lt {a b:Int}:decide (zjT a b<0)=decide (a<b):=by
 unfold zjT
 by_cases h:a<b
 ·rw [if_pos h,decide_eq_true h];rfl
 ·rw [if_neg h,decide_eq_false h]
  split <;> rfl
theorem cmp_eq {a b:Int}:(zjT a b==0)=(a==b):=by
 unfold zjT
 by_cases h:a<b
 ·rw [if_pos h,beq_false_of_ne (show a≠b by omega)];rfl
 ·rw [if_neg h]
  by_cases h2:b<a
  ·rw [if_pos h2,beq_false_of_ne (show a≠b by omega)];rfl
  ·have:a=b:=by omega
   subst this
   rw [if_neg h2,beq_self_eq_true,beq_self_eq_true]
theorem zcu (o:Sht) (s:Int):VP (sE r) 139 [.agg ((zX o).map .p),iv s] (iv (zjT o.id s)):=by
 refine VP.of (fn:=Tryz.f139) za (zD rfl) (by kernel_rfl) rfl rfl rfl ?_
 refine VSt.go za false [] 200 rfl AllP.n ?_
 refine VSt.pc rfl rfl rfl rfl rfl rfl rfl rfl ((zo3 o.id s)) ?_
 refine VSt.go za false [] 200 rfl AllP.n ?_
 exact EndsP.mk rfl rfl rfl rfl
def Rising (l:List Sht):Prop:=∀ i,0<i→i<l.length→(zi l (i - 1)).id<(zi l i).id
theorem Rising.lt {l:List Sht} (h:Rising l):∀ {p q:Nat},p<q→q<l.length→(zi l p).id<(zi l q).id:=by
 intro p q hpq hq
 obtain ⟨d,rfl⟩:∃ d,q=p+1+d:=⟨q - (p+1),by omega⟩
 clear hpq
 induction d with
 | zero=>exact h (p+1) (by omega) hq
 | succ d ih =>
  have h1:=ih (by omega)
  have h2:=h (p+1+d+1) (by omega) hq
  rw [show p+1+d+1 - 1=p+1+d by omega] at h2
  exact Int.lt_trans h1 h2
theorem Rising.inj {l:List Sht} (h:Rising l) {p q:Nat} (hp:p<l.length) (hq:q<l.length) (e:(zi l p).id=(zi l q).id):p=q:=by
 rcases Nat.lt_trichotomy p q with g | g | g
 ·have:=h.lt g hq;omega
 ·exact g
 ·have:=h.lt g hp;omega
def z7t (l:List Sht) (s:Int):Nat:=(l.filter fun o=>decide (o.id<s)).length
def ziI (l:List Sht) (s:Int):Bool:=l.any fun o=>o.id==s
theorem zhN {l:List Sht} {s:Int} {i:Nat} (hi:i≤l.length) (h1:∀ q,q<i→(zi l q).id<s) (h2:∀ q,i≤q→q<l.length→s≤(zi l q).id):z7t l s=i:=by
 unfold z7t
 have e:l=l.take i++l.drop i:=(List.take_append_drop i l).symm
 conv=>lhs;rw [e]
 rw [List.filter_append,List.filter_eq_self.2,List.filter_eq_nil_iff.2,List.append_nil,List.length_take]
 ·omega
 ·intro o ho
  obtain ⟨q,hq,e⟩:=List.mem_iff_getElem.1 ho
  rw [List.length_drop] at hq
  rw [List.getElem_drop] at e
  have:=h2 (i+q) (by omega) (by omega)
  unfold zi at this
  rw [zt (by omega),e] at this
  rw [decide_eq_false (by omega)];decide
 ·intro o ho
  obtain ⟨q,hq,e⟩:=List.mem_iff_getElem.1 ho
  rw [List.length_take] at hq
  rw [List.getElem_take] at e
  have:=h1 q (by omega)
  unfold zi at this
  rw [zt (by omega),e] at this
  exact decide_eq_true this
set_option maxHeartbeats 4000000 in
theorem zgs {b:Bool} {l:List Sht} {s:Int} (hR:Rising l) (hn:l.length<1000000):VP (sE r) 138 [.p (z0M b l),iv s,.fn 139 [] []] (.tup [nv (z7t l s),bv (ziI l s)]):=by
 have hmono:∀ p q,p≤q→q<l.length→(zi l p).id≤(zi l q).id:=fun p q hpq hq=>by
  by_cases e:p=q
  ·subst e;exact Int.le_refl _
  ·have h1:=hR.lt (show p<q by omega) hq;omega
 refine VP.of (fn:=Tryz.f138) za (zD rfl) (by kernel_rfl) rfl rfl rfl ?_
 refine VSt.go za false [] 200 rfl AllP.n ?_
 refine VSt.loop (α :=Nat×Nat) (fun x F L=>x.1≤x.2∧x.2≤l.length∧(∀ q,q<x.1→(zi l q).id<s)∧(∀ q,x.2≤q→q<l.length→s≤(zi l q).id)∧F=[(0,.p (z0M b l)),(1,iv s),(2,.fn 139 [] []),(8,nv l.length),(9,nv x.1),(10,nv x.2)]∧L=[]) (fun x=>x.2 - x.1) (0,l.length) (by (refine Vw.drop (by repeat (first | exact zw | refine zo rfl rfl rfl ?_ | refine z0k rfl ‹_› (z08 _ ‹_›) ?_)))) ⟨yu _,ym _,fun q h=>absurd h (Nat.not_lt_zero q),fun q h1 h2=>absurd h2 (by omega),rfl,rfl⟩ ?_
 rintro ⟨i,j⟩ F L ⟨h1,h2,h3,h4,rfl,rfl⟩
 refine VSt.go za false [] 200 rfl AllP.n ?_
 refine VSt.cond rfl (fun g=>?_) (fun g=>?_)
 ·have g:i<j:=nlt g
  have h2:j≤l.length:=h2
  have hm:(i+j) / 2<l.length:=by omega
  refine VSt.go za false [21] 200 rfl (AllP.c (by unfold inR;(try simp only [yl]);omega) AllP.n) ?_
  refine ze9 rfl rfl (PureA.conv (ka:=.i64) (a:=Int.ofNat i+Int.ofNat j) (kc:=.u64) (c:=Int.ofNat (i+j)) rfl (zoJ (by omega))) ?_
  refine ze9 rfl rfl (PureA.bin (ka:=.u64) (kb:=.u64) (a:=Int.ofNat (i+j)) (b:=1) (kc:=.u64) (c:=Int.ofNat ((i+j) / 2)) rfl rfl zl2) ?_
  refine ze9 rfl rfl (PureA.conv (ka:=.u64) (a:=Int.ofNat ((i+j) / 2)) (kc:=.i64) (c:=Int.ofNat ((i+j) / 2)) rfl (zoL (by omega))) ?_
  refine VSt.go za false [] 200 rfl (AllP.c ‹_› (AllP.c rfl AllP.n)) ?_
  refine VSt.pc rfl rfl rfl rfl rfl rfl rfl rfl ((zcu (zi l ((i+j) / 2)) s)) ?_
  refine VSt.go za false [] 200 rfl AllP.n ?_
  refine VSt.cond rfl (fun g1=>?_) (fun g1=>?_)
  ·have g1:(zi l ((i+j) / 2)).id<s:=of_decide_eq_true (cmp_lt.symm.trans g1)
   refine VSt.go za false [] 200 rfl (AllP.c (by unfold inR;(try simp only [yl]);omega) AllP.n) ?_
   exact ⟨((i+j) / 2+1,j),_,_,(by (refine Vw.drop (by repeat (first | exact zw | refine zo rfl rfl rfl ?_ | refine z0k rfl ‹_› (z08 _ ‹_›) ?_)))),⟨by show (i+j) / 2+1≤j;omega,h2,fun q hq=>Int.lt_of_le_of_lt (hmono q ((i+j) / 2) (by have:q<(i+j) / 2+1:=hq;omega) hm) g1,h4,rfl,rfl⟩,by show j - ((i+j) / 2+1)<j - i;omega⟩
  ·have g1:¬ (zi l ((i+j) / 2)).id<s:=of_decide_eq_false (cmp_lt.symm.trans g1)
   refine VSt.go za false [] 200 rfl AllP.n ?_
   exact ⟨(i,(i+j) / 2),_,_,(by (refine Vw.drop (by repeat (first | exact zw | refine zo rfl rfl rfl ?_ | refine z0k rfl ‹_› (z08 _ ‹_›) ?_)))),⟨by show i≤(i+j) / 2;omega,by show (i+j) / 2≤l.length;omega,h3,fun q hq hq2=>Int.le_trans (by omega) (hmono ((i+j) / 2) q hq hq2),rfl,rfl⟩,by show (i+j) / 2 - i<j - i;omega⟩
 ·have g:i=j:=by
   have g:j≤i:=nge g
   have h1:i≤j:=h1
   omega
  subst g
  have hp:z7t l s=i:=zhN h2 h3 h4
  refine VSt.go za false [] 200 rfl AllP.n ?_
  refine zb 39 rfl (fun g2=>?_) (fun g2=>?_)
  ·have g2:i<l.length:=nlt g2
   refine VSt.go za false [] 200 rfl (AllP.c ‹_› (AllP.c rfl AllP.n)) ?_
   refine VSt.pc rfl rfl rfl rfl rfl rfl rfl rfl ((zcu (zi l i) s)) ?_
   refine VSt.go za false [] 200 rfl AllP.n ?_
   refine EndsP.mk rfl rfl rfl ?_
   show AV.tup [nv i,bv (zjT (zi l i).id s==0)]=_
   rw [cmp_eq,hp]
   congr 4
   rw [Bool.eq_iff_iff]
   unfold ziI
   rw [List.any_eq_true]
   refine ⟨fun h=>⟨zi l i,z09 g2,h⟩,fun ⟨o,ho,h⟩=>?_⟩
   obtain ⟨q,hq,e⟩:=z0y (d:=default) ho
   have e:zi l q=o:=e
   rw [←e,beq_iff_eq] at h
   rcases Nat.lt_trichotomy q i with hlt | rfl | hgt
   ·have:=h3 q hlt;omega
   ·exact beq_iff_eq.2 h
   ·have k1:=h4 i (ym _) g2
    have k2:=hmono i q (Nat.le_of_lt hgt) hq
    exact beq_iff_eq.2 (by omega)
  ·have g2:i=l.length:=by have:=nge g2;have:i≤l.length:=h2;omega
   refine VSt.go za false [] 200 rfl AllP.n ?_
   refine EndsP.mk rfl rfl rfl ?_
   show AV.tup [nv i,bv false]=_
   rw [hp]
   congr 4
   symm
   unfold ziI
   rw [List.any_eq_false]
   intro o ho
   obtain ⟨q,hq,e⟩:=z0y (d:=default) ho
   have e:zi l q=o:=e
   have:=h3 q (by show q<i;omega)
   rw [e] at this
   rw [beq_false_of_ne (by omega)];decide
theorem find_ok {b b2:Bool} {l:List Sht} {w:List Sew} {s:Int} (hR:Rising l) (hn:l.length<1000000):VP (sE r) 97 [.agg [.p (z0M b l),.p (z92 b2 w)],iv s] (.tup [nv (z7t l s),bv (ziI l s)]):=by
 refine VP.of (fn:=Tryz.f97) za (zD rfl) (by kernel_rfl) rfl rfl rfl ?_
 refine VSt.go za false [] 200 rfl AllP.n ?_
 refine VSt.pc rfl rfl rfl rfl rfl rfl rfl rfl ((zgs (b:=b) (s:=s) hR hn)) ?_
 refine VSt.go za false [] 200 rfl AllP.n ?_
 exact EndsP.mk rfl rfl rfl rfl
theorem zdg {l:List Sht} (hR:Rising l) {i:Nat} (hi:i<l.length):z7t l (zi l i).id=i :=
 zhN (Nat.le_of_lt hi) (fun q hq=>hR.lt hq hi) fun q hq hl=>by
  rcases Nat.lt_or_eq_of_le hq with h | h
  ·have:=hR.lt h hl;omega
  ·subst h;exact Int.le_refl _
theorem zfd {l:List Sht} {s:Int} (hR:Rising l) (h:ziI l s=true):z7t l s<l.length∧(zi l (z7t l s)).id=s:=by
 unfold ziI at h
 obtain ⟨o,ho,e⟩:=List.any_eq_true.1 h
 obtain ⟨i,hi,rfl⟩:=z0y (d:=default) ho
 have e:(zi l i).id=s:=beq_iff_eq.1 e
 have hp:z7t l s=i:=by rw [←e];exact zdg hR hi
 rw [hp];exact ⟨hi,e⟩
theorem ziH {l:List Sht} {i:Nat} (hi:i<l.length):ziI l (zi l i).id=true:=List.any_eq_true.2 ⟨zi l i,z09 hi,beq_self_eq_true _⟩
structure SzH (h:Hp):Prop where
 st:h.st.length<9223372036854775808
 sw:h.sw.length<9223372036854775808
 each:∀ k,k<h.st.length→SzS (zi h.st k)
 stN:h.stB=true→h.st=[]
 swN:h.swB=true→h.sw=[]
def z7w (l:List Sht) (k:Nat) (p:Int):Nat:=((l.take k).filter fun s=>s.paper==p).length
def cnt (l:List Sht) (p:Int):Nat:=(l.filter fun s=>s.paper==p).length
def cF (l:List Sht):Nat→Int→Option Int
 | 0=>fun _=>none
 | k+1=>fun q=>bif q==(zi l k).paper then some ((cF l k (zi l k).paper).getD 0+1) else cF l k q
theorem zeq {l:List Sht} {k:Nat} (h:k<l.length):l.take (k+1)=l.take k++[zi l k]:=by
 unfold zi;rw [List.take_add_one,zt h,List.getElem?_eq_getElem h];rfl
theorem zjj (l:List Sht):∀ k,k≤l.length→∀ q,(cF l k q).getD 0=Int.ofNat (z7w l k q)
 | 0,_,q=>by unfold z7w;rw [List.take_zero];rfl
 | k+1,h,q=>by
  have ih:=zjj l k (by omega)
  have e:z7w l (k+1) q=z7w l k q+(bif (zi l k).paper==q then 1 else 0):=by
   unfold z7w
   rw [zeq (show k<l.length by omega),List.filter_append,List.length_append]
   cases hb:(zi l k).paper==q with
   | true=>rw [show [zi l k].filter (fun s=>s.paper==q)=[zi l k] from List.filter_cons_of_pos (p:=fun s:Sht=>s.paper==q) hb];rfl
   | false=>rw [show [zi l k].filter (fun s=>s.paper==q)=[] from List.filter_cons_of_neg (p:=fun s:Sht=>s.paper==q) (by rw [hb];decide)];rfl
  rw [e]
  show (bif q==(zi l k).paper then some ((cF l k (zi l k).paper).getD 0+1) else cF l k q).getD 0=_
  by_cases hq:q=(zi l k).paper
  ·subst hq
   rw [beq_self_eq_true,ih];rfl
  ·rw [beq_false_of_ne hq,beq_false_of_ne (Ne.symm hq)]
   exact ih q
theorem zo2 (l:List Sht) (k:Nat) (p:Int):z7w l k p≤k:=yn (List.length_filter_le _ _) (by rw [List.length_take];omega)
def SewOk (l:List Sht) (x:Sew):Prop:=∃ a b,a<l.length∧b<l.length∧(zi l a).id=x.fro∧(zi l b).id=x.too∧a≠b∧(zi l a).paper=(zi l b).paper
structure OkH (h:Hp):Prop where
 st:h.st.length≤24
 sw:h.sw.length≤12
 ok:∀ i,i<h.st.length→OkS (zi h.st i)
 rise:Rising h.st
 few:∀ i,i<h.st.length→cnt h.st (zi h.st i).paper≤7
 sewn:∀ i,i<h.sw.length→SewOk h.st (zB h.sw i)
 froms:∀ i,0<i→i<h.sw.length→(zB h.sw (i - 1)).fro<(zB h.sw i).fro
 toos:∀ i,i<h.sw.length→∀ k,k<i→(zB h.sw k).too≠(zB h.sw i).too
open Classical in
noncomputable def ckH (h:Hp):Int:=if OkH h then 0 else 51
theorem z2D {h:Hp} (n:¬ OkH h):ckH h=51:=if_neg n
theorem zfp {h:Hp} (n:OkH h):ckH h=0:=if_pos n
structure To1 (l:List Sht) (k:Nat):Prop where
 ok:∀ i,i<k→OkS (zi l i)
 few:∀ i,i<k→z7w l (i+1) (zi l i).paper≤7
 rise:∀ i,0<i→i<k→(zi l (i - 1)).id<(zi l i).id
theorem To1.zero (l:List Sht):To1 l 0:=⟨none0,none0,fun i _ hi=>absurd hi (Nat.not_lt_zero i)⟩
theorem To1.succ {l:List Sht} {k:Nat} (h:To1 l k) (h1:OkS (zi l k)) (h2:z7w l (k+1) (zi l k).paper≤7) (h3:0<k→(zi l (k - 1)).id<(zi l k).id):To1 l (k+1):=by
 refine ⟨z16 h.ok h1,z16 h.few h2,fun i h0 hi=>?_⟩
 by_cases e:i=k
 ·subst e;exact h3 h0
 ·exact h.rise i h0 (by omega)
theorem zjc (l:List Sht) (p:Int) {a b:Nat} (h:a≤b):z7w l a p≤z7w l b p:=by
 unfold z7w
 obtain ⟨d,rfl⟩:∃ d,b=a+d:=⟨b - a,by omega⟩
 rw [List.take_add,List.filter_append,List.length_append];omega
theorem zfn (l:List Sht) (p:Int):z7w l l.length p=cnt l p:=by unfold z7w cnt;rw [List.take_length]
theorem OkH.few1 {h:Hp} (n:OkH h) {k:Nat} (hk:k<h.st.length):z7w h.st (k+1) (zi h.st k).paper≤7 :=
 yn (by rw [←zfn];exact zjc _ _ hk) (n.few k hk)
theorem zlg {l:List Sht} (h:∀ i,i<l.length→z7w l (i+1) (zi l i).paper≤7) (p:Int):cnt l p≤7:=by
 rw [←zfn]
 have:∀ k,k≤l.length→z7w l k p≤7:=by
  intro k
  induction k with
  | zero=>intro _;unfold z7w;rw [List.take_zero];exact yu _
  | succ k ih =>
   intro hk
   by_cases e:(zi l k).paper=p
   ·rw [←e];exact h k hk
   ·have:z7w l (k+1) p=z7w l k p:=by
     unfold z7w
     rw [zeq hk,List.filter_append,show [zi l k].filter (fun s=>s.paper==p)=[] from List.filter_cons_of_neg (p:=fun s:Sht=>s.paper==p) (by rw [beq_false_of_ne e];decide),List.append_nil]
    rw [this];exact ih (by omega)
 exact this _ (ym _)
theorem zjf (o x:Sew):VP (sE r) 99 [.agg ((zgk o).map .p),.p (.fp (zgk x) 0)] (bv (o.too==x.too)):=by
 refine VP.of (fn:=Tryz.f99) za (zD rfl) (by kernel_rfl) rfl rfl rfl ?_
 refine VSt.go za false [] 200 rfl AllP.n ?_
 exact EndsP.mk rfl rfl rfl rfl
theorem znG {b:Bool} {l:List Sew} {f:Nat} {first cap:List AV} {p:Sew→Bool} (hn:l.length<9223372036854775808) (hon:(AV.fn f first cap).only (olds [])=true) (hoc:∀ x,z06 (olds []) (first++([.agg ((zgk x).map .p)]++cap))=true) (hf:∀ x,VP (sE r) f (first++([.agg ((zgk x).map .p)]++cap)) (bv (p x))) :
  VP (sE r) 140 [.p (z92 b l),.fn f first cap] (iv (z7c l p)):=by
 refine VP.of (fn:=Tryz.f140) za (zD rfl) (by kernel_rfl) rfl rfl rfl ?_
 refine VSt.run za false [] 200 rfl trivial ?_
 refine z6N za l.length (by omega) (fun _=>[(0,.p (z92 b l)),(1,.fn f first cap)]) (fun _=>[]) (fun k=>∀ i,i<k→p (l.getD i default)=false) rfl rfl (fun _=>rfl) ?_ (fun i hi=>absurd hi (Nat.not_lt_zero i)) (fun k hk hp=>?_) (fun hp=>?_)
 ·(refine Vw.drop (by repeat (first | exact zw | refine zo rfl rfl rfl ?_ | refine z0k rfl ‹_› (z08 _ ‹_›) ?_)))
 ·refine VSt.run za false [] 200 rfl (⟨hk,rfl⟩) ?_
  refine z6c (hf (l.getD k default)) rfl rfl rfl rfl rfl rfl (hoc _) ?_
  refine VSt.run za false [] 200 rfl trivial ?_
  refine VSt.cond rfl (fun hc=>?_) (fun hc=>?_)
  ·refine VSt.run za false [] 200 rfl trivial ?_
   refine EndsP.mk rfl rfl rfl ?_
   rw [z7I hk hc hp];rfl
  ·refine VSt.run za false [] 200 rfl trivial ?_
   refine ⟨by (refine Vw.drop (by repeat (first | exact zw | refine zo rfl rfl rfl ?_ | refine z0k rfl ‹_› (z08 _ ‹_›) ?_))),fun i hi=>?_⟩
   by_cases e:i=k
   ·subst e;exact hc
   ·exact hp i (by omega)
 ·refine VSt.run za false [] 200 rfl trivial ?_
  refine EndsP.mk rfl rfl rfl ?_
  rw [z8O hp];rfl
theorem zl0 {α : Type} (l:List α) (p : α → Bool):decide (0≤z7c l p)=l.any p:=by
 unfold z7c
 cases h:l.findIdx? p with
 | none =>
  rw [List.findIdx?_eq_none_iff] at h
  symm
  show l.any p=false
  rw [List.any_eq_false]
  exact fun x hx=>by simp [h x hx]
 | some k =>
  have:l.any p=true:=by
   rw [List.findIdx?_eq_some_iff_getElem] at h
   obtain ⟨hk,h,_⟩:=h
   exact List.any_eq_true.2 ⟨_,List.getElem_mem hk,h⟩
  rw [this];exact decide_eq_true (Int.natCast_nonneg k)
theorem zld {b:Bool} {l:List Sew} {f:Nat} {first cap:List AV} {p:Sew→Bool} (hn:l.length<9223372036854775808) (hon:(AV.fn f first cap).only (olds [])=true) (hoc:∀ x,z06 (olds []) (first++([.agg ((zgk x).map .p)]++cap))=true) (hf:∀ x,VP (sE r) f (first++([.agg ((zgk x).map .p)]++cap)) (bv (p x))) :
  VP (sE r) 98 [.p (z92 b l),.fn f first cap] (bv (l.any p)):=by
 refine VP.of (fn:=Tryz.f98) za (zD rfl) (by kernel_rfl) rfl rfl rfl ?_
 refine VSt.run za false [] 200 rfl trivial ?_
 refine z6c (znG hn hon hoc hf) rfl rfl rfl rfl rfl rfl (by
  show (true&&((AV.fn f first cap).only (olds [])&&true))=true
  rw [hon];rfl) ?_
 refine VSt.run za false [] 200 rfl trivial ?_
 refine EndsP.mk rfl rfl rfl ?_
 show bv _=bv _
 congr 2
 exact zl0 l p
structure To2 (h:Hp) (k:Nat):Prop where
 sewn:∀ i,i<k→SewOk h.st (zB h.sw i)
 froms:∀ i,0<i→i<k→(zB h.sw (i - 1)).fro<(zB h.sw i).fro
 toos:∀ i,i<k→∀ j,j<i→(zB h.sw j).too≠(zB h.sw i).too
theorem To2.zero (h:Hp):To2 h 0:=⟨none0,fun i _ hi=>absurd hi (Nat.not_lt_zero i),none0⟩
theorem To2.succ {h:Hp} {k:Nat} (n:To2 h k) (h1:SewOk h.st (zB h.sw k)) (h2:0<k→(zB h.sw (k - 1)).fro<(zB h.sw k).fro) (h3:∀ j,j<k→(zB h.sw j).too≠(zB h.sw k).too):To2 h (k+1):=by
 refine ⟨z16 n.sewn h1,fun i h0 hi=>?_,z16 n.toos h3⟩
 by_cases e:i=k
 ·subst e;exact h2 h0
 ·exact n.froms i h0 (by omega)
theorem SewOk.has {l:List Sht} {x:Sew} (h:SewOk l x):ziI l x.fro=true∧ziI l x.too=true:=by
 obtain ⟨a,b,ha,hb,e1,e2,_⟩:=h
 exact ⟨by rw [←e1];exact ziH ha,by rw [←e2];exact ziH hb⟩
theorem SewOk.pos {l:List Sht} (hR:Rising l) {x:Sew} (h:SewOk l x):z7t l x.fro≠z7t l x.too∧(zi l (z7t l x.fro)).paper=(zi l (z7t l x.too)).paper:=by
 obtain ⟨a,b,ha,hb,e1,e2,h1,h2⟩:=h
 rw [←e1,←e2,zdg hR ha,zdg hR hb]
 exact ⟨h1,h2⟩
theorem SewOk.of {l:List Sht} (hR:Rising l) {x:Sew} (h1:ziI l x.fro=true) (h2:ziI l x.too=true) (h3:z7t l x.fro≠z7t l x.too) (h4:(zi l (z7t l x.fro)).paper=(zi l (z7t l x.too)).paper):SewOk l x:=by
 obtain ⟨a1,a2⟩:=zfd hR h1
 obtain ⟨b1,b2⟩:=zfd hR h2
 exact ⟨_,_,a1,b1,a2,b2,h3,h4⟩
set_option maxHeartbeats 4000000 in
theorem zlj {h:Hp} (hz:SzH h):VP (sE r) 32 [.agg ((eHp h).map .p)] (iv (ckH h)):=by
 have hn:=hz.st
 have hm:=hz.sw
 refine VP.of (fn:=Tryz.f32) za (zD rfl) (by kernel_rfl) rfl rfl rfl ?_
 refine VSt.go za false [] 200 rfl AllP.n ?_
 refine zf (z00 0 (eHp h) rfl rfl) ?_
 refine zb 16 rfl (fun a1=>?_) (fun a1=>?_)
 ·have a1:=of_decide_eq_true a1
  refine VSt.go za false [] 200 rfl AllP.n ?_
  refine EndsP.mk rfl rfl rfl ?_
  rw [z2D fun h=>by have:=h.st;simp only [yl] at a1;omega];rfl
 have hl:h.st.length≤24:=by have a1:=of_decide_eq_false a1;simp only [yl] at a1;omega
 refine VSt.go za false [] 200 rfl AllP.n ?_
 refine VSt.cond rfl (fun a2=>?_) (fun a2=>?_)
 ·have a2:=of_decide_eq_true a2
  refine VSt.go za false [] 200 rfl AllP.n ?_
  refine EndsP.mk rfl rfl rfl ?_
  rw [z2D fun h=>by have:=h.sw;simp only [yl] at a2;omega];rfl
 have hl2:h.sw.length≤12:=by have a2:=of_decide_eq_false a2;simp only [yl] at a2;omega
 refine VSt.go za false [] 200 rfl AllP.n ?_
 refine z0R za h.st.length (by omega) [1,24] (fun k=>[(3,.map 0)]) (fun k=>[(0,.mapI (cF h.st k))]) (fun k=>To1 h.st k) rfl rfl rfl (fun _=>rfl) rfl rfl (z2s rfl (AImp.refl _) z0X) (LImp.refl _) (To1.zero _) (fun k hk hp=>?_) (fun hp=>?_)
 ·have hzk:=hz.each k hk
  have e1:(cF h.st k (zi h.st k).paper).getD 0=_:=zjj h.st k (by omega) _
  have hc1:=zo2 h.st k (zi h.st k).paper
  have hck:=zpM (r:=r) hzk
  have hi:inR ((cF h.st k (zi h.st k).paper).getD 0+1):=by rw [e1];unfold inR;simp only [yl];omega
  have e2:z7w h.st (k+1) (zi h.st k).paper=z7w h.st k (zi h.st k).paper+1:=by
   have:=zjj h.st (k+1) (by omega) (zi h.st k).paper
   have e3:(cF h.st (k+1) (zi h.st k).paper).getD 0=(cF h.st k (zi h.st k).paper).getD 0+1:=by
    show (bif (zi h.st k).paper==(zi h.st k).paper then some ((cF h.st k (zi h.st k).paper).getD 0+1) else _).getD 0=_
    rw [beq_self_eq_true];rfl
   rw [e3,e1] at this
   have:=Int.ofNat_inj.1 (show Int.ofNat (z7w h.st k (zi h.st k).paper+1)=_ from this)
   exact this.symm
  have e4:(bif (zi h.st k).paper==(zi h.st k).paper then some ((cF h.st k (zi h.st k).paper).getD 0+1) else cF h.st k (zi h.st k).paper).getD 0=Int.ofNat (z7w h.st k (zi h.st k).paper+1):=by
   rw [beq_self_eq_true]
   show (cF h.st k (zi h.st k).paper).getD 0+1=_
   rw [e1];rfl
  rcases zpL (zi h.st k) with ⟨hO,e⟩ | ⟨hO,e⟩
  rotate_left
  ·rw [e] at hck
   refine VSt.go za false [] 200 rfl (AllP.c ‹_› (AllP.c rfl (AllP.c ‹_› AllP.n))) ?_
   refine z2U rfl rfl rfl rfl rfl rfl rfl rfl (hck) ?_
   refine VSt.go za false [] 200 rfl AllP.n ?_
   refine z05 39 rfl (fun q=>?_) (fun q=>?_)
   rotate_left
   ·exact absurd q (by decide)
   refine VSt.go za false [] 200 rfl AllP.n ?_
   refine EndsP.mk rfl rfl rfl ?_
   rw [z2D fun n=>hO (n.ok k hk)];rfl
  rw [e] at hck
  refine VSt.go za false [] 200 rfl (AllP.c ‹_› (AllP.c rfl (AllP.c ‹_› AllP.n))) ?_
  refine z2U rfl rfl rfl rfl rfl rfl rfl rfl (hck) ?_
  refine VSt.go za false [] 200 rfl AllP.n ?_
  refine z05 39 rfl (fun q=>?_) (fun q=>?_)
  ·exact absurd q (by decide)
  refine VSt.go za false [] 200 rfl AllP.n ?_
  refine z05 46 rfl (fun a3=>?_) (fun a3=>?_)
  ·have a3:=of_decide_eq_true a3
   refine VSt.go za false [] 200 rfl AllP.n ?_
   refine EndsP.mk rfl rfl rfl ?_
   rw [z2D fun n=>by
    have:=n.few1 hk
    rw [e4] at a3
    simp only [yl] at a3
    omega];rfl
  have hfew:z7w h.st (k+1) (zi h.st k).paper≤7:=by
   have a3:=of_decide_eq_false a3
   rw [e4] at a3
   simp only [yl] at a3
   omega
  refine VSt.go za false [] 200 rfl AllP.n ?_
  refine z05 49 rfl (fun a4=>?_) (fun a4=>?_)
  ·have h0:=n0 a4
   refine VSt.go za false [54] 200 rfl (AllP.c (by unfold inR;(try simp only [yl]);omega) AllP.n) ?_
   refine z0f 53 (nv (k - 1)) rfl (zhL h0) ?_
   refine VSt.go za false [] 200 rfl (AllP.c (by omega) (AllP.c rfl AllP.n)) ?_
   refine VSt.cond rfl (fun a5=>?_) (fun a5=>?_)
   ·have a5:(zi h.st k).id≤(zi h.st (k - 1)).id:=of_decide_eq_true a5
    refine VSt.go za false [] 200 rfl AllP.n ?_
    refine EndsP.mk rfl rfl rfl ?_
    rw [z2D fun n=>by have:=n.rise k h0 hk;omega];rfl
   ·have a5:¬ (zi h.st k).id≤(zi h.st (k - 1)).id:=of_decide_eq_false a5
    refine VSt.go za false [] 200 rfl AllP.n ?_
    exact ⟨by refine z0F (ps:=[(0,0)]) ⟨rfl,rfl,(by repeat (first | exact zw | refine zo rfl rfl rfl ?_)),_,rfl,((LImp.refl _))⟩,hp.succ hO hfew fun _=>by omega⟩
  ·have h0:=n0' a4
   refine VSt.go za false [] 200 rfl AllP.n ?_
   exact ⟨by refine z0F (ps:=[(0,0)]) ⟨rfl,rfl,(by repeat (first | exact zw | refine zo rfl rfl rfl ?_)),_,rfl,((LImp.refl _))⟩,hp.succ hO hfew fun h1=>by omega⟩
 ·have hR:Rising h.st:=hp.rise
  refine VSt.go za false [] 200 rfl AllP.n ?_
  refine z02 (Vw.kp [1,64,65,66] [] rfl) ?_
  refine z0R za h.sw.length (by omega) [1,64] (fun k=>[]) (fun k=>[]) (fun k=>To2 h k) rfl rfl rfl (fun _=>rfl) rfl rfl z0X trivial (To2.zero _) (fun k hk hq=>?_) (fun hq=>?_)
  ·have hA:=zfd (s:=(zB h.sw k).fro) hR
   have hB:=zfd (s:=(zB h.sw k).too) hR
   have htl:(h.sw.take k).length=k:=by rw [List.length_take];omega
   have hcont:=zld (r:=r) (b:=h.swB) (l:=h.sw.take k) (f:=99) (first:=[]) (cap:=[.p (.fp (zgk (zB h.sw k)) 0)]) (p:=fun o=>o.too==(zB h.sw k).too) (by omega) rfl (fun _=>rfl) (fun x=>zjf x _)
   refine VSt.go za false [] 200 rfl (AllP.c ‹_› (AllP.c rfl AllP.n)) ?_
   refine zf (z00 0 (zgk (zB h.sw k)) rfl rfl) ?_
   refine VSt.pc rfl rfl rfl rfl rfl rfl rfl rfl ((find_ok (b:=h.stB) (b2:=h.swB) (l:=h.st) (w:=h.sw) (s:=(zB h.sw k).fro) hR (by omega))) ?_
   refine VSt.go za false [] 200 rfl AllP.n ?_
   refine VSt.pc rfl rfl rfl rfl rfl rfl rfl rfl ((find_ok (b:=h.stB) (b2:=h.swB) (l:=h.st) (w:=h.sw) (s:=(zB h.sw k).too) hR (by omega))) ?_
   refine VSt.go za false [] 200 rfl AllP.n ?_
   refine z05 87 rfl (fun b1=>?_) (fun b1=>?_)
   ·refine VSt.go za false [] 200 rfl AllP.n ?_
    refine EndsP.mk rfl rfl rfl ?_
    rw [z2D fun n=>by have:=(n.sewn k hk).has.1;rw [nt b1] at this;cases this];rfl
   have c1:=nf b1
   refine VSt.go za false [] 200 rfl AllP.n ?_
   refine z05 91 rfl (fun b2=>?_) (fun b2=>?_)
   ·refine VSt.go za false [] 200 rfl AllP.n ?_
    refine EndsP.mk rfl rfl rfl ?_
    rw [z2D fun n=>by have:=(n.sewn k hk).has.2;rw [nt b2] at this;cases this];rfl
   have c2:=nf b2
   have d1:=(hA c1).1
   have d2:=(hB c2).1
   refine VSt.go za false [] 200 rfl AllP.n ?_
   refine z05 96 rfl (fun b3=>?_) (fun b3=>?_)
   ·have b3:z7t h.st (zB h.sw k).fro=z7t h.st (zB h.sw k).too:=Int.ofNat_inj.1 (eq_of_beq b3)
    refine VSt.go za false [] 200 rfl AllP.n ?_
    refine EndsP.mk rfl rfl rfl ?_
    rw [z2D fun n=>((n.sewn k hk).pos hR).1 b3];rfl
   have c3:z7t h.st (zB h.sw k).fro≠z7t h.st (zB h.sw k).too:=fun e=>ne_of_beq_false b3 (by rw [e])
   refine VSt.go za false [] 200 rfl (AllP.c ‹_› (AllP.c rfl (AllP.c ‹_› (AllP.c rfl AllP.n)))) ?_
   refine z05 111 rfl (fun b4=>?_) (fun b4=>?_)
   ·have b4:((zi h.st (z7t h.st (zB h.sw k).fro)).paper==(zi h.st (z7t h.st (zB h.sw k).too)).paper)=false:=nt b4
    refine VSt.go za false [] 200 rfl AllP.n ?_
    refine EndsP.mk rfl rfl rfl ?_
    rw [z2D fun n=>ne_of_beq_false b4 ((n.sewn k hk).pos hR).2];rfl
   have c4:(zi h.st (z7t h.st (zB h.sw k).fro)).paper=(zi h.st (z7t h.st (zB h.sw k).too)).paper:=eq_of_beq (nf b4)
   have hS:=SewOk.of hR c1 c2 c3 c4
   refine VSt.go za false [] 200 rfl AllP.n ?_
   refine z05 114 rfl (fun b5=>?x1) (fun b5=>?x2)
   case' x1 =>
    have h0:=n0 b5
    refine VSt.go za false [119] 200 rfl (AllP.c (by unfold inR;(try simp only [yl]);omega) AllP.n) ?_
    refine z0f 118 (nv (k - 1)) rfl (zhL h0) ?_
    refine VSt.go za false [] 200 rfl (AllP.c (by omega) (AllP.c rfl AllP.n)) ?_
    refine z05 127 rfl (fun b6=>?_) (fun b6=>?_)
    ·have b6:(zB h.sw k).fro≤(zB h.sw (k - 1)).fro:=of_decide_eq_true b6
     refine VSt.go za false [] 200 rfl AllP.n ?_
     refine EndsP.mk rfl rfl rfl ?_
     rw [z2D fun n=>by have:=n.froms k h0 hk;omega];rfl
    have hri:0<k→(zB h.sw (k - 1)).fro<(zB h.sw k).fro:=fun _=>by have b6:¬ (zB h.sw k).fro≤(zB h.sw (k - 1)).fro:=of_decide_eq_false b6;omega
   case' x2 =>
    have hri:0<k→(zB h.sw (k - 1)).fro<(zB h.sw k).fro:=fun h=>absurd (n0' b5) (by omega)
   all_goals
    refine VSt.go za false [132] 200 rfl (AllP.c (by omega) (AllP.c (by omega) (AllP.c (fun _ _=>rfl) AllP.n))) ?_
    refine z0f 131 (.p (z92 h.swB (h.sw.take k))) rfl (by
     show AImp _ (.p (.lst _ h.swB (h.sw.take k).length _))
     rw [htl]
     exact AImp.lst fun j hj=>by
      show fW h.sw (0+j)=fW (h.sw.take k) j
      unfold fW zB
      rw [Nat.zero_add]
      simp only [List.getD_eq_getElem?_getD]
      rw [List.getElem?_take,if_pos (show j<k from hj)]) ?_
    refine VSt.go za false [] 200 rfl AllP.n ?_
    refine z2U rfl rfl rfl rfl rfl rfl rfl rfl (hcont) ?_
    refine VSt.go za false [] 200 rfl AllP.n ?_
    refine VSt.cond rfl (fun b7=>?_) (fun b7=>?_)
    ·have b7:(h.sw.take k).any (fun o=>o.too==(zB h.sw k).too)=true:=b7
     refine VSt.go za false [] 200 rfl AllP.n ?_
     refine EndsP.mk rfl rfl rfl ?_
     rw [z2D fun n=>by
      obtain ⟨o,ho,e⟩:=List.any_eq_true.1 b7
      obtain ⟨j,hj,rfl⟩:=z0y (d:=default) ho
      rw [htl] at hj
      have e:((h.sw.take k).getD j default).too=(zB h.sw k).too:=eq_of_beq e
      refine n.toos k hk j hj ?_
      rw [←e]
      unfold zB
      simp only [List.getD_eq_getElem?_getD]
      rw [List.getElem?_take,if_pos hj]];rfl
    ·have b7:(h.sw.take k).any (fun o=>o.too==(zB h.sw k).too)=false:=b7
     refine VSt.go za false [] 200 rfl AllP.n ?_
     refine ⟨by (refine Vw.drop (by repeat (first | exact zw | refine zo rfl rfl rfl ?_ | refine z0k rfl ‹_› (z08 _ ‹_›) ?_))),hq.succ hS hri fun j hj e=>?_⟩
     rw [List.any_eq_false] at b7
     refine b7 ((h.sw.take k).getD j default) (z09 (by omega)) ?_
     rw [beq_iff_eq,←e]
     unfold zB
     simp only [List.getD_eq_getElem?_getD]
     rw [List.getElem?_take,if_pos hj]
  ·refine VSt.go za false [] 200 rfl AllP.n ?_
   refine EndsP.mk rfl rfl rfl ?_
   rw [zfp ⟨hl,hl2,hp.ok,hR,fun i _=>zlg hp.few _,hq.sewn,hq.froms,hq.toos⟩];rfl
def fL (l:List Int):Nat→List PV:=fun q=>[.int .i64 (l.getD q 0)]
theorem ze4 (l:List Int) (y:Int) (q:Nat) (hq:q<l.length+1):(bif Nat.blt q l.length then fL l q else ([PV.int .i64 y].drop ((q - l.length)*1)).take 1)=fL (l++[y]) q:=by
 unfold fL
 by_cases e:q<l.length
 ·rw [z9a e]
  simp only [cond_true,List.getD_eq_getElem?_getD]
  rw [List.getElem?_append_left e]
 ·have:q=l.length:=by omega
  subst this
  rw [z9q e,Nat.sub_self]
  simp
def eL (l:List Int):PV:=z1V l.isEmpty l
theorem zmn {l:List Int} {n:Nat} (hn:n=l.length):(AV.p (.lst 3 (true&&Nat.beq n 0) n (fL l))) = .p (eL l):=by
 subst hn
 cases l <;> rfl
def zrY (l:List Sht) (p:Int):List Int:=(l.filter fun s=>s.paper==p).map (·.id)
structure To3 (l:List Sht) (k:Nat):Prop where
 ok:∀ i,i<k→OkS (zi l i)
 few:∀ i,i<k→cnt l (zi l i).paper≤7
 rise:∀ i,0<i→i<k→(zi l (i - 1)).id<(zi l i).id
theorem To3.zero (l:List Sht):To3 l 0:=⟨none0,none0,fun i _ hi=>absurd hi (Nat.not_lt_zero i)⟩
theorem To3.succ {l:List Sht} {k:Nat} (h:To3 l k) (h1:OkS (zi l k)) (h2:cnt l (zi l k).paper≤7) (h3:0<k→(zi l (k - 1)).id<(zi l k).id):To3 l (k+1):=by
 refine ⟨z16 h.ok h1,z16 h.few h2,fun i h0 hi=>?_⟩
 by_cases e:i=k
 ·subst e;exact h3 h0
 ·exact h.rise i h0 (by omega)
theorem Vw.empAcc {E:Env} {d i sz sz' sz2:Nat} {f g:Nat→List PV} {t t':TypeId}:Vw E [] [(d,.sl i sz 0 0 0 2)] [(i,.arr 0 sz' f t)] [(d,.acc false i sz 0)] [(i,.acc 0 sz2 g t')]:=by
 intro T S Z j hS hF
 obtain ⟨b,hj,vs,gg,h1,h2,h3,h4⟩:=hS.blk i (.arr 0 sz' f t) (by simp [bk]) id
 have hr:=hS.unrom hj
 refine ⟨ZB Z b,fun _=>none,⟨fun c hc=>?_,fun k c hk=>(by cases hk),fun k k' c hk=>(by cases hk),fun k hk=>rfl,fun k vb hk=>?_,fun c q hc=>⟨(hS.rom c q hc).1,fun k hk=>(by cases hk)⟩⟩,fun x a ha=>?_,⟨ym _,fun _ _ _=>rfl,fun c hc=>.inl hc,fun c hc=>?_,fun k c hk=>(by cases hk),ym _,fun _ h _ _=>h⟩,fun k hk=>(by cases hk)⟩
 ·rcases hc with hc | rfl
  ·exact hS.zlt c hc
  ·exact (hS.jlt i _ hj).1
 ·simp only [bk] at hk
  cases hb:Nat.beq i k with
  | true=>rw [hb] at hk;cases hk;exact .inl rfl
  | false=>rw [hb] at hk;cases hk
 ·simp only [ak] at ha
  cases hb:Nat.beq d x with
  | true =>
   rw [hb] at ha
   cases ha
   obtain ⟨v,h5,h6⟩:=hF x (.sl i sz 0 0 0 2) (by simp only [ak];rw [hb];rfl)
   refine ⟨v,h5,?_⟩
   cases h6 with
   | sl h =>
    rw [hj] at h;cases h
    exact .accE (.inr rfl) ((z2I hr).trans h1) (by simp)
  | false=>rw [hb] at ha;cases ha
 ·rcases hc with hc | rfl
  ·exact .inl hc
  ·exact .inr (.inr ⟨i,hj⟩)
theorem zlE {i sz m m' c c':Nat} (h:m=m') (h2:c=c'):AImp (.sl i sz 0 m c 0) (.sl i sz 0 m' c' 0):=by subst h h2;exact AImp.refl _
theorem znH {b:Bool} {l:List Sht} {f:Nat} {first cap:List AV} {p:Sht→Bool} (hn:l.length<9223372036854775808) (hon:(AV.fn f first cap).only (olds [])=true) (hoc:∀ x,z06 (olds []) (first++([.agg ((zX x).map .p)]++cap))=true) (hf:∀ x,VP (sE r) f (first++([.agg ((zX x).map .p)]++cap)) (bv (p x))) :
  VP (sE r) 122 [.p (z0M b l),.fn f first cap] (iv (z7c l p)):=by
 refine VP.of (fn:=Tryz.f122) za (zD rfl) (by kernel_rfl) rfl rfl rfl ?_
 refine VSt.run za false [] 200 rfl trivial ?_
 refine z6N za l.length (by omega) (fun _=>[(0,.p (z0M b l)),(1,.fn f first cap)]) (fun _=>[]) (fun k=>∀ i,i<k→p (l.getD i default)=false) rfl rfl (fun _=>rfl) ?_ (fun i hi=>absurd hi (Nat.not_lt_zero i)) (fun k hk hp=>?_) (fun hp=>?_)
 ·(refine Vw.drop (by repeat (first | exact zw | refine zo rfl rfl rfl ?_ | refine z0k rfl ‹_› (z08 _ ‹_›) ?_)))
 ·refine VSt.run za false [] 200 rfl (⟨hk,rfl⟩) ?_
  refine z6c (hf (l.getD k default)) rfl rfl rfl rfl rfl rfl (hoc _) ?_
  refine VSt.run za false [] 200 rfl trivial ?_
  refine VSt.cond rfl (fun hc=>?_) (fun hc=>?_)
  ·refine VSt.run za false [] 200 rfl trivial ?_
   refine EndsP.mk rfl rfl rfl ?_
   rw [z7I hk hc hp];rfl
  ·refine VSt.run za false [] 200 rfl trivial ?_
   refine ⟨by (refine Vw.drop (by repeat (first | exact zw | refine zo rfl rfl rfl ?_ | refine z0k rfl ‹_› (z08 _ ‹_›) ?_))),fun i hi=>?_⟩
   by_cases e:i=k
   ·subst e;exact hc
   ·exact hp i (by omega)
 ·refine VSt.run za false [] 200 rfl trivial ?_
  refine EndsP.mk rfl rfl rfl ?_
  rw [z8O hp];rfl
theorem zje {b:Bool} {l:List Sht} (hb:b=true→l=[]) (hn:l.length<1000000):VC (sE r) [] 109 [.p (z0M b l)] [] (fun a L=>a = .acc b 0 6 l.length∧L=[(0,.acc l.length 6 (fS l) 74)]):=by
 refine VC.of (fn:=Tryz.f109) za (zD rfl) (by kernel_rfl) rfl rfl ?_
 refine VSt.run za false [] 200 rfl trivial ?_
 refine VSt.cond rfl (fun h=>?_) (fun h=>?_)
 ·refine z02 (z3H 0 6 (fS l) 74 rfl) ?_
  refine VSt.run za false [] 200 rfl trivial ?_
  have e:=hb h
  subst e;subst h
  exact ⟨rfl,_,[(0,0)],_,_,rfl,⟨rfl,rfl,z2c rfl rfl z1g zw,_,rfl,LImp.refl _⟩,rfl,rfl⟩
 ·subst h
  cases hl:l with
  | nil =>
   subst hl
   refine VSt.go za true [2] 200 rfl (AllP.c rfl AllP.n) ?_
   refine zf (Vw.trans (z0F (ps:=[(0,0)]) (F0:=[(7,.sl 0 6 0 0 0 2)]) (L0:=[(0,.arr 0 6 (fun _=>[]) 74)]) ⟨rfl,rfl,(by repeat (first | exact zw | refine zo rfl rfl rfl ?_)),_,rfl,LImp.refl _⟩) (Vw.empAcc (sz2:=6) (g:=fS []) (t':=74))) ?_
   refine VSt.run za false [] 200 rfl trivial ?_
   exact ⟨rfl,_,[(0,0)],_,_,rfl,⟨rfl,rfl,z2c rfl rfl (AImp.refl _) zw,_,rfl,LImp.refl _⟩,rfl,rfl⟩
  | cons x m =>
   subst hl
   refine VSt.run za false [] 200 rfl (⟨Nat.succ_pos _,(by simp only [List.length_cons] at hn ⊢;omega),(fun q hq=>rfl),rfl,rfl,(by simp only [List.length_cons];omega),ym _⟩) ?_
   exact ⟨rfl,_,[(0,1)],_,[(0,.acc (m.length+1) 6 (fS (x::m)) 74)],rfl,⟨rfl,rfl,z2c rfl rfl (zgF (Nat.succ_pos _) (Nat.zero_add _) (Nat.zero_add _)) zw,_,rfl,⟨rfl,zea (Nat.zero_add _) fun q hq=>rfl,trivial⟩⟩,rfl,rfl⟩
theorem zqA (g:Nat→Sht) (i j q:Nat):(bif Nat.beq q i then zbJ (zX (g i)) 0 (zX (g j)) else zX (g q))=zX (if q=i then g j else g q):=by
 by_cases h:q=i
 ·subst h;rw [if_pos rfl,Nat.beq_refl];rfl
 ·rw [if_neg h,z0B h];rfl
theorem znY {nb:Bool} {l:List Sht} {f:Nat} {id:Int} {p:Sht→Bool} (hf:∀ x,VP (sE r) f [.agg ((zX x).map .p),.p (.fp [.int .i64 id] 0)] (bv (p x))) (hn:l.length≤1000) :
  VC (sE r) [0] 126 [.acc nb 0 6 l.length,.fn f [] [.p (.fp [.int .i64 id] 0)]] [(0,.acc l.length 6 (fS l) 74)]
   (fun a L=>(z7c l p = -1∧a = .acc nb 0 6 l.length∧L=[(0,.acc l.length 6 (fS l) 74)]) ∨
    (¬ z7c l p = -1∧∃ G:Nat→List PV,(l.filter (fun x=>!p x)).length<l.length∧(∀ q,q<(l.filter (fun x=>!p x)).length→G q=zX ((l.filter (fun x=>!p x)).getD q default))∧a = .sl 0 6 0 (l.filter (fun x=>!p x)).length l.length 0∧L=[(0,.arr l.length 6 G 74)])):=by
 refine VC.of (fn:=Tryz.f126) za (zD rfl) (by kernel_rfl) rfl rfl ?_
 refine VSt.run za false [] 200 rfl trivial ?_
 refine z6d (Vw.trans (Vw.sub' (F0:=[(8,.acc nb 0 6 l.length),(9,.fn f [] [.p (.fp [.int .i64 id] 0)])]) (z9h (by repeat (first | exact z0v | refine z0J rfl ?_)))) (z1K 0 rfl rfl ⟨ym _,rfl⟩)) rfl rfl rfl rfl rfl rfl rfl (znH (first:=[]) (cap:=[.p (.fp [.int .i64 id] 0)]) (p:=p) (by omega) rfl (fun _=>rfl) (fun x=>hf x)) rfl ?_
 refine VSt.run za false [] 200 rfl trivial ?_
 refine VSt.cond rfl (fun h=>?_) (fun h=>?_)
 ·have h:z7c l p = -1:=eq_of_beq h
  refine VSt.run za false [] 200 rfl trivial ?_
  exact ⟨rfl,_,[(0,0)],_,_,rfl,⟨rfl,rfl,z2c rfl rfl (AImp.refl _) zw,_,rfl,LImp.refl _⟩,.inl ⟨h,rfl,rfl⟩⟩
 have h:¬ z7c l p = -1:=ne_of_beq_false h
 refine Exists.elim ((z4D l p).resolve_left h) fun k0 hk0=>?_
 have hfst:=z4C hk0
 have i0:inR (Int.ofNat k0+1):=by unfold inR;simp only [yl];omega
 refine VSt.putC 5 (nv k0) rfl (z2y hk0) ?_
 refine VSt.run za false [] 200 rfl (i0) ?_
 refine VSt.loop (α :=Nat×Nat×(Nat→Sht)) (fun x F L=>DelInv l p x.1 x.2.1 x.2.2 ∧
   F=[(0,.acc nb 0 6 l.length),(1,.fn f [] [.p (.fp [.int .i64 id] 0)]),(5,nv x.2.1),(6,nv x.1)]∧L=[(0,.acc l.length 6 (fun q=>zX (x.2.2 q)) 74)]) (fun x=>l.length - x.1) (k0+1,k0,fun q=>l.getD q default) ?_ ⟨DelInv.start hfst,rfl,rfl⟩ ?_
 ·(refine Vw.sub' (z9h (by repeat (first | exact z0v | refine z0J rfl ?_))))
 rintro ⟨j,i,g⟩ F L ⟨hI,rfl,rfl⟩
 have hI:DelInv l p j i g:=hI
 have h1:=hI.le
 have h2:=hI.lt
 refine VSt.run za false [] 200 rfl trivial ?_
 refine VSt.cond rfl (fun hc=>?_) (fun hc=>?_)
 ·have hj:j<l.length:=by have:=of_decide_eq_true hc;simp only [yl] at this;omega
  have ij:inR (Int.ofNat j+1):=by unfold inR;simp only [yl];omega
  have ii:inR (Int.ofNat i+1):=by unfold inR;simp only [yl];omega
  have eg:g j=l.getD j default:=hI.rest j (ym _)
  refine VSt.run za false [] 200 rfl (⟨hj,rfl,hj,rfl⟩) ?_
  refine VSt.pc rfl rfl rfl rfl rfl rfl rfl rfl ((hf (g j))) ?_
  refine VSt.run za false [] 200 rfl trivial ?_
  refine VSt.cond rfl (fun hd=>?_) (fun hd=>?_)
  ·have hd:p (l.getD j default)=false:=by rw [←eg];exact (Bool.not_eq_true' _).mp hd
   refine VSt.run za false [] 200 rfl (⟨(show i<l.length by omega),rfl,(show i<l.length by omega),rfl,ym _,ii,ij⟩) ?_
   exact ⟨(j+1,i+1,fun q=>if q=i then g j else g q),_,_,Vw.trans (Vw.sub' (F0:=[(0,.acc nb 0 6 l.length),(1,.fn f [] [.p (.fp [.int .i64 id] 0)]),(5,nv (i+1)),(6,nv (j+1))]) (z9h (by repeat (first | exact z0v | refine z0J rfl ?_)))) (z0F (ps:=[(0,0)]) (F0:=[(0,.acc nb 0 6 l.length),(1,.fn f [] [.p (.fp [.int .i64 id] 0)]),(5,nv (i+1)),(6,nv (j+1))]) (L0:=[(0,.acc l.length 6 (fun q=>zX (if q=i then g j else g q)) 74)]) ⟨rfl,rfl,(by repeat (first | exact zw | refine zo rfl rfl rfl ?_)),_,rfl,⟨rfl,BImp.acc rfl (fun q hq=>zqA g i j q),trivial⟩⟩),⟨hI.keep hj hd,rfl,rfl⟩,by show l.length - (j+1)<l.length - j;omega⟩
  ·have hd:p (l.getD j default)=true:=by rw [←eg];exact (Bool.not_eq_false' _).mp hd
   refine VSt.run za false [] 200 rfl (ij) ?_
   exact ⟨(j+1,i,g),_,_,z0F (ps:=[(0,0)]) (F0:=[(0,.acc nb 0 6 l.length),(1,.fn f [] [.p (.fp [.int .i64 id] 0)]),(5,nv i),(6,nv (j+1))]) (L0:=[(0,.acc l.length 6 (fun q=>zX (g q)) 74)]) ⟨rfl,rfl,(by repeat (first | exact zw | refine zo rfl rfl rfl ?_)),_,rfl,LImp.refl _⟩,⟨hI.skip hj hd,rfl,rfl⟩,by show l.length - (j+1)<l.length - j;omega⟩
 ·have hj:j=l.length:=by have:=of_decide_eq_false hc;simp only [yl] at this;omega
  subst hj
  have ha:=hI.all
  have hpos:0<l.length:=by omega
  have h1':i≤l.length:=Nat.le_of_lt h2
  refine z02 (z0F (ps:=[(0,0)]) (F0:=[(0,.sl 0 6 0 l.length l.length 0),(5,nv i)]) (L0:=[(0,.arr l.length 6 (fun q=>zX (g q)) 74)]) ⟨rfl,rfl,z2c rfl rfl (zgG hpos rfl rfl) (zo rfl rfl rfl zw),_,rfl,⟨rfl,zeb hpos rfl (fun q hq=>rfl),trivial⟩⟩) ?_
  refine VSt.run za false [] 200 rfl (⟨h1',ym _,.inl h2,rfl,(by show 0+i+(l.length - i)≤l.length;omega),rfl,rfl,yu _,h1',.inr rfl,rfl⟩) ?_
  refine ⟨rfl,_,[(0,0)],_,_,rfl,⟨rfl,rfl,z2c rfl rfl (zlE (by omega) (by omega)) zw,_,rfl,LImp.refl _⟩,.inr ⟨h,_,by rw [←ha.1];exact h2,fun q hq=>?_,rfl,rfl⟩⟩
  rw [←ha.1] at hq
  show (bif Nat.ble (0+i) q&&Nat.blt q (0+i+(l.length - i)) then _ else zX (g q))=_
  rw [show Nat.ble (0+i) q=false from by rw [←Bool.not_eq_true];intro hb;have:=Nat.le_of_ble_eq_true hb;omega]
  rw [←ha.2 q hq];rfl
theorem AImp.agg {cs ds:List AV} (h:AImps cs ds):AImp (.agg cs) (.agg ds):=fun E S Z j v hv=>by
 cases hv with
 | agg hs hv=>exact .agg hs (h.vrs hv)
theorem AImp.tup {cs ds:List AV} (h:AImps cs ds):AImp (.tup cs) (.tup ds):=fun E S Z j v hv=>by
 cases hv with
 | tup hv=>exact .tup (h.vrs hv)
theorem zgq (s:Sht) (p:Int):VP (sE r) 146 [.agg ((zX s).map .p),.p (.fp [.int .i64 p] 0)] (bv (!(s.paper==p))):=by
 refine VP.of (fn:=Tryz.f146) za (zD rfl) (by kernel_rfl) rfl rfl rfl ?_
 refine VSt.go za false [] 200 rfl AllP.n ?_
 exact EndsP.mk rfl rfl rfl rfl
theorem nnot {α : Type} (l:List α) (q : α → Bool):l.filter (fun x=>!!q x)=l.filter q:=by
 congr 1;funext x;cases q x <;> rfl
def zJ (l:List Sht) (p:Int):List Sht:=l.filter fun s=>s.paper==p
theorem zka {b:Bool} {l m:List Sht} (hb:b=true→l=[]) (e:m=l):AImp (.p (.lst 74 (b&&Nat.beq l.length 0) l.length (fS l))) (.p (z0M b m)):=by
 subst e
 cases b with
 | true=>rw [hb rfl];exact AImp.refl _
 | false=>exact AImp.refl _
theorem zk9 {b:Bool} {l m m':List Sht} {G:Nat→List PV} (hb:b=true→l=[]) (e:m'=m) (hm:m'.length<l.length) (hG:∀ q,q<m'.length→G q=zX (m'.getD q default)):AImp (.p (.lst 74 false m'.length fun k=>G (0+k))) (.p (z0M b m)):=by
 subst e
 cases b with
 | true=>rw [hb rfl] at hm;exact absurd hm (Nat.not_lt_zero _)
 | false=>exact AImp.lst fun k hk=>by rw [Nat.zero_add];exact hG k hk
theorem zjk {h:Hp} {p:Int} (hz:SzH h) (hn:h.st.length≤1000):VP (sE r) 107 [.agg ((eHp h).map .p),iv p] (.p (z0M h.stB (zJ h.st p))):=by
 refine VP.of (fn:=Tryz.f107) za (zD rfl) (by kernel_rfl) rfl rfl rfl ?_
 refine VSt.go za false [] 200 rfl AllP.n ?_
 refine zf (z00 0 (eHp h) rfl rfl) ?_
 refine zf (z00 1 [.int .i64 p] rfl rfl) ?_
 refine VSt.cc [] rfl rfl rfl rfl rfl rfl rfl rfl rfl rfl rfl (zje hz.stN (by omega)) ?_
 rintro a L' ⟨rfl,rfl⟩
 refine VSt.go za false [] 200 rfl AllP.n ?_
 refine VSt.cc [(0,0)] rfl rfl rfl rfl rfl rfl rfl rfl rfl rfl rfl (znY (f:=146) (id:=p) (p:=fun s=>!(s.paper==p)) (fun x=>zgq x p) hn) ?_
 rintro a L' (⟨g,rfl,rfl⟩ | ⟨g,G,hm,hG,rfl,rfl⟩)
 ·refine zf (Vw.kp [9] [(0,0)] rfl) ?_
  refine zf (z1K 0 rfl rfl ⟨ym _,rfl⟩) ?_
  refine z0a 9 (.p (z0M h.stB (zJ h.st p))) rfl (zka hz.stN (by have:=zaP g;rw [nnot] at this;exact this)) ?_
  refine VSt.go za false [] 200 rfl AllP.n ?_
  exact EndsP.mk rfl rfl rfl rfl
 ·have hm':=Nat.le_of_lt hm
  refine zf (Vw.kp [9] [(0,0)] rfl) ?_
  refine zf (Vw.freeze 0 rfl rfl ⟨by rw [Nat.zero_add];exact hm',hm',rfl⟩) ?_
  refine z0a 9 (.p (z0M h.stB (zJ h.st p))) rfl (zk9 hz.stN (nnot _ _) hm hG) ?_
  refine VSt.go za false [] 200 rfl AllP.n ?_
  exact EndsP.mk rfl rfl rfl rfl
theorem zeZ {α β : Type} [Inhabited α] {l:List α} {f : α → β} {k:Nat} (h:k<l.length):(l.take (k+1)).map f=(l.take k).map f++[f (l.getD k default)]:=by
 rw [z6n l h,List.map_append];rfl
noncomputable def ppE (h:Hp) (p:Int):Int:=if ckH h=0 then (bif wth p 1 999 then 0 else 1) else 51
theorem zmg (h:Hp):(OkH h∧ckH h=0)∨(¬ OkH h∧ckH h=51):=by
 unfold ckH
 by_cases c:OkH h
 ·exact .inl ⟨c,if_pos c⟩
 ·exact .inr ⟨c,if_neg c⟩
theorem zlO {h:Hp} {p:Int} (e:ckH h=51):ppE h p=51:=if_neg (by rw [e];decide)
theorem zlP {h:Hp} {p:Int} (e:ckH h=0) (g:wth p 1 999=false):ppE h p=1:=by unfold ppE;rw [if_pos e,g];rfl
theorem zhM {h:Hp} {p:Int} (e:ckH h=0) (g:wth p 1 999=true):ppE h p=0:=by unfold ppE;rw [if_pos e,g];rfl
theorem z2o {h:Hp} {p:Int} (hz:SzH h):VP (sE r) 72 [.agg ((eHp h).map .p),iv p] (iv (ppE h p)):=by
 have hc:=zlj (r:=r) hz
 refine VP.of (fn:=Tryz.f72) za (zD rfl) (by kernel_rfl) rfl rfl rfl ?_
 refine VSt.go za false [] 200 rfl AllP.n ?_
 rcases zmg h with ⟨_,e⟩ | ⟨_,e⟩ <;> rw [e] at hc
 ·refine VSt.pc rfl rfl rfl rfl rfl rfl rfl rfl (hc) ?_
  refine VSt.go za false [] 200 rfl AllP.n ?_
  refine VSt.cond rfl (fun q=>absurd q (by decide)) (fun _=>?_)
  refine VSt.go za false [] 200 rfl AllP.n ?_
  refine VSt.pc rfl rfl rfl rfl rfl rfl rfl rfl ((z9I p)) ?_
  refine VSt.go za false [] 200 rfl AllP.n ?_
  refine VSt.cond rfl (fun q=>?_) (fun q=>?_)
  ·refine VSt.go za false [] 200 rfl AllP.n ?_
   refine EndsP.mk rfl rfl rfl ?_
   rw [zlP e (nt q)];rfl
  ·refine VSt.go za false [] 200 rfl AllP.n ?_
   refine EndsP.mk rfl rfl rfl ?_
   rw [zhM e (nf q)];rfl
 ·refine VSt.pc rfl rfl rfl rfl rfl rfl rfl rfl (hc) ?_
  refine VSt.go za false [] 200 rfl AllP.n ?_
  refine VSt.cond rfl (fun _=>?_) (fun q=>absurd q (by decide))
  refine VSt.go za false [] 200 rfl AllP.n ?_
  refine EndsP.mk rfl rfl rfl ?_
  rw [zlO e];rfl
theorem z4r (h:Hp) (p:Int):(OkH h∧ppE h p=0)∨((!(ppE h p==0))=true):=by
 rcases zmg h with ⟨c,e⟩ | ⟨_,e⟩
 ·by_cases g:wth p 1 999=true
  ·exact .inl ⟨c,zhM e g⟩
  ·rw [zlP e (by simpa using g)];exact .inr rfl
 ·rw [zlO e];exact .inr rfl
theorem zau {h:Hp} {p:Int} (e:(!(ppE h p==0))=true):¬ ppE h p=0:=fun g=>by rw [g] at e;cases e
theorem zbd (l:List Sht) (y:Sht) (ps:List PV) (hp:ps=zX y) (q:Nat) (hq:q<l.length+1):(bif Nat.blt q l.length then fS l q else (ps.drop ((q - l.length)*6)).take 6)=fS (l++[y]) q:=by
 subst hp
 unfold fS zi
 by_cases e:q<l.length
 ·rw [z9a e]
  simp only [cond_true,List.getD_eq_getElem?_getD]
  rw [List.getElem?_append_left e]
 ·have:q=l.length:=by omega
  subst this
  rw [z9q e,Nat.sub_self]
  simp only [cond_false,List.getD_eq_getElem?_getD]
  rw [List.getElem?_append_right (ym _),Nat.sub_self];rfl
theorem zod (l:List Sew) (y:Sew) (ps:List PV) (hp:ps=zgk y) (q:Nat) (hq:q<l.length+1):(bif Nat.blt q l.length then fW l q else (ps.drop ((q - l.length)*2)).take 2)=fW (l++[y]) q:=by
 subst hp
 unfold fW zB
 by_cases e:q<l.length
 ·rw [z9a e]
  simp only [cond_true,List.getD_eq_getElem?_getD]
  rw [List.getElem?_append_left e]
 ·have:q=l.length:=by omega
  subst this
  rw [z9q e,Nat.sub_self]
  simp only [cond_false,List.getD_eq_getElem?_getD]
  rw [List.getElem?_append_right (ym _),Nat.sub_self];rfl
def eLS (l:List Sht):PV:=z0M l.isEmpty l
theorem zoi {l:List Sht} {n:Nat} (hn:n=l.length):(AV.p (.lst 74 (true&&Nat.beq n 0) n (fS l))) = .p (eLS l):=by
 subst hn
 cases l <;> rfl
def eLW (l:List Sew):PV:=z92 l.isEmpty l
theorem zoh {l:List Sew} {n:Nat} (hn:n=l.length):(AV.p (.lst 58 (true&&Nat.beq n 0) n (fW l))) = .p (eLW l):=by
 subst hn
 cases l <;> rfl
def toK (w:List Sew) (id:Int):Nat→Int
 | 0=>0
 | k+1=>bif (zB w k).fro==id then (zB w k).too else toK w id k
def frK (w:List Sew) (id:Int):Nat→Int
 | 0=>0
 | k+1=>bif (zB w k).too==id then (zB w k).fro else frK w id k
def toS (h:Hp) (id:Int):Int:=toK h.sw id h.sw.length
def frS (h:Hp) (id:Int):Int:=frK h.sw id h.sw.length
theorem zah {h:Hp} {id:Int} (hn:h.sw.length<9223372036854775808):VP (sE r) 112 [.agg ((eHp h).map .p),iv id] (.tup [iv (toS h id),iv (frS h id)]):=by
 refine VP.of (fn:=Tryz.f112) za (zD rfl) (by kernel_rfl) rfl rfl rfl ?_
 refine VSt.go za false [] 200 rfl AllP.n ?_
 refine z02 (z00 0 (eHp h) rfl rfl) ?_
 refine z0R za h.sw.length hn [1,9] (fun k=>[(4,iv (toK h.sw id k)),(5,iv (frK h.sw id k))]) (fun _=>[]) (fun _=>True) rfl rfl rfl (fun _=>rfl) rfl rfl (z2s rfl (AImp.refl _) (z2s rfl (AImp.refl _) z0X)) trivial trivial (fun k hk _=>?_) (fun _=>?_)
 ·refine VSt.go za false [] 200 rfl (AllP.c ‹_› (AllP.c rfl AllP.n)) ?_
  refine VSt.cond rfl (fun h1=>?x1) (fun h1=>?x2)
  case' x1 =>
   have e1:toK h.sw id (k+1)=(zB h.sw k).too:=by
    show (bif (zB h.sw k).fro==id then _ else _)=_
    rw [show ((zB h.sw k).fro==id)=true from h1];rfl
  case' x2 =>
   have e1:toK h.sw id (k+1)=toK h.sw id k:=by
    show (bif (zB h.sw k).fro==id then _ else _)=_
    rw [show ((zB h.sw k).fro==id)=false from h1];rfl
  all_goals
   refine VSt.go za false [] 200 rfl AllP.n ?_
   refine VSt.cond rfl (fun h2=>?_) (fun h2=>?_)
   ·have e2:frK h.sw id (k+1)=(zB h.sw k).fro:=by
     show (bif (zB h.sw k).too==id then _ else _)=_
     rw [show ((zB h.sw k).too==id)=true from h2];rfl
    refine VSt.go za false [] 200 rfl AllP.n ?_
    refine ⟨?_,trivial⟩
    dsimp only
    rw [e1,e2]
    (refine Vw.drop (by repeat (first | exact zw | refine zo rfl rfl rfl ?_ | refine z0k rfl ‹_› (z08 _ ‹_›) ?_)))
   ·have e2:frK h.sw id (k+1)=frK h.sw id k:=by
     show (bif (zB h.sw k).too==id then _ else _)=_
     rw [show ((zB h.sw k).too==id)=false from h2];rfl
    refine VSt.go za false [] 200 rfl AllP.n ?_
    refine ⟨?_,trivial⟩
    dsimp only
    rw [e1,e2]
    (refine Vw.drop (by repeat (first | exact zw | refine zo rfl rfl rfl ?_ | refine z0k rfl ‹_› (z08 _ ‹_›) ?_)))
 ·refine VSt.go za false [] 200 rfl AllP.n ?_
  exact EndsP.mk rfl rfl rfl rfl
def mayB (h:Hp) (a b:Sht):Bool:=(a.catch_==b.first||(a.catch_==0||b.first==0))&&((toS h a.id==0||toS h a.id==b.id)&&(frS h b.id==0||frS h b.id==a.id))
theorem z3K {h:Hp} {a b:Sht} (h1:(a.catch_==b.first||(a.catch_==0||b.first==0))=true) (h2:(toS h a.id==0||toS h a.id==b.id)=true):mayB h a b=(frS h b.id==0||frS h b.id==a.id):=by
 unfold mayB;rw [h1,h2];rfl
theorem znt {h:Hp} {a b:Sht} (h1:(a.catch_==b.first||(a.catch_==0||b.first==0))=false):mayB h a b=false:=by
 unfold mayB;rw [h1];rfl
theorem zdu {h:Hp} {a b:Sht} (h1:(toS h a.id==0||toS h a.id==b.id)=false):mayB h a b=false:=by
 unfold mayB;rw [h1];cases (a.catch_==b.first||(a.catch_==0||b.first==0)) <;> rfl
set_option maxHeartbeats 4000000 in
theorem zpo {h:Hp} {a b:Sht} (hn:h.sw.length<9223372036854775808):VP (sE r) 113 [.agg ((eHp h).map .p),.agg ((zX a).map .p),.agg ((zX b).map .p)] (bv (mayB h a b)):=by
 have s1:=zah (r:=r) (h:=h) (id:=a.id) hn
 have s2:=zah (r:=r) (h:=h) (id:=b.id) hn
 refine VP.of (fn:=Tryz.f113) za (zD rfl) (by kernel_rfl) rfl rfl rfl ?_
 refine VSt.go za false [] 200 rfl AllP.n ?_
 refine zf (z00 0 (eHp h) rfl rfl) ?_
 refine zf (z00 1 (zX a) rfl rfl) ?_
 refine zf (z00 2 (zX b) rfl rfl) ?_
 refine VSt.pc rfl rfl rfl rfl rfl rfl rfl rfl (s1) ?_
 refine VSt.go za false [] 200 rfl AllP.n ?_
 refine VSt.pc rfl rfl rfl rfl rfl rfl rfl rfl (s2) ?_
 refine VSt.go za false [] 200 rfl AllP.n ?_
 refine zb 30 rfl (fun hA=>?_) (fun hA=>?_)
 ·have h40:(a.catch_==b.first||(a.catch_==0||b.first==0))=true:=by rw [show (a.catch_==b.first)=true from hA];rfl
  refine VSt.go za false [] 200 rfl AllP.n ?_
  refine zb 43 rfl (fun d1=>?_) (fun d1=>?_)
  ·have d2:(toS h a.id==0||toS h a.id==b.id)=true:=by rw [show (toS h a.id==0)=true from d1];rfl
   refine VSt.go za false [] 200 rfl AllP.n ?_
   refine zb 53 rfl (fun f1=>?_) (fun f1=>?_)
   ·refine VSt.go za false [] 200 rfl AllP.n ?_
    refine EndsP.mk rfl rfl rfl ?_
    show bv _=bv _
    rw [z3K h40 d2,show (frS h b.id==0)=true from f1];rfl
   ·refine VSt.go za false [] 200 rfl AllP.n ?_
    refine EndsP.mk rfl rfl rfl ?_
    show bv _=bv _
    rw [z3K h40 d2,show (frS h b.id==0)=false from f1];rfl
  ·refine VSt.go za false [] 200 rfl AllP.n ?_
   refine zb 50 rfl (fun e1=>?_) (fun e1=>?_)
   ·have d2:(toS h a.id==0||toS h a.id==b.id)=true:=by rw [show (toS h a.id==0)=false from d1,show (toS h a.id==b.id)=true from e1];rfl
    refine VSt.go za false [] 200 rfl AllP.n ?_
    refine zb 53 rfl (fun f1=>?_) (fun f1=>?_)
    ·refine VSt.go za false [] 200 rfl AllP.n ?_
     refine EndsP.mk rfl rfl rfl ?_
     show bv _=bv _
     rw [z3K h40 d2,show (frS h b.id==0)=true from f1];rfl
    ·refine VSt.go za false [] 200 rfl AllP.n ?_
     refine EndsP.mk rfl rfl rfl ?_
     show bv _=bv _
     rw [z3K h40 d2,show (frS h b.id==0)=false from f1];rfl
   ·refine VSt.go za false [] 200 rfl AllP.n ?_
    refine EndsP.mk rfl rfl rfl ?_
    show bv _=bv _
    rw [zdu (by rw [show (toS h a.id==0)=false from d1,show (toS h a.id==b.id)=false from e1];rfl)]
 refine VSt.go za false [] 200 rfl AllP.n ?_
 refine zb 35 rfl (fun hB=>?_) (fun hB=>?_)
 ·have h40:(a.catch_==b.first||(a.catch_==0||b.first==0))=true:=by rw [show (a.catch_==b.first)=false from hA,show (a.catch_==0)=true from hB];rfl
  refine VSt.go za false [] 200 rfl AllP.n ?_
  refine zb 43 rfl (fun d1=>?_) (fun d1=>?_)
  ·have d2:(toS h a.id==0||toS h a.id==b.id)=true:=by rw [show (toS h a.id==0)=true from d1];rfl
   refine VSt.go za false [] 200 rfl AllP.n ?_
   refine zb 53 rfl (fun f1=>?_) (fun f1=>?_)
   ·refine VSt.go za false [] 200 rfl AllP.n ?_
    refine EndsP.mk rfl rfl rfl ?_
    show bv _=bv _
    rw [z3K h40 d2,show (frS h b.id==0)=true from f1];rfl
   ·refine VSt.go za false [] 200 rfl AllP.n ?_
    refine EndsP.mk rfl rfl rfl ?_
    show bv _=bv _
    rw [z3K h40 d2,show (frS h b.id==0)=false from f1];rfl
  ·refine VSt.go za false [] 200 rfl AllP.n ?_
   refine zb 50 rfl (fun e1=>?_) (fun e1=>?_)
   ·have d2:(toS h a.id==0||toS h a.id==b.id)=true:=by rw [show (toS h a.id==0)=false from d1,show (toS h a.id==b.id)=true from e1];rfl
    refine VSt.go za false [] 200 rfl AllP.n ?_
    refine zb 53 rfl (fun f1=>?_) (fun f1=>?_)
    ·refine VSt.go za false [] 200 rfl AllP.n ?_
     refine EndsP.mk rfl rfl rfl ?_
     show bv _=bv _
     rw [z3K h40 d2,show (frS h b.id==0)=true from f1];rfl
    ·refine VSt.go za false [] 200 rfl AllP.n ?_
     refine EndsP.mk rfl rfl rfl ?_
     show bv _=bv _
     rw [z3K h40 d2,show (frS h b.id==0)=false from f1];rfl
   ·refine VSt.go za false [] 200 rfl AllP.n ?_
    refine EndsP.mk rfl rfl rfl ?_
    show bv _=bv _
    rw [zdu (by rw [show (toS h a.id==0)=false from d1,show (toS h a.id==b.id)=false from e1];rfl)]
 refine VSt.go za false [] 200 rfl AllP.n ?_
 refine zb 40 rfl (fun hC=>?_) (fun hC=>?_)
 ·have h40:(a.catch_==b.first||(a.catch_==0||b.first==0))=true:=by rw [show (a.catch_==b.first)=false from hA,show (a.catch_==0)=false from hB,show (b.first==0)=true from hC];rfl
  refine VSt.go za false [] 200 rfl AllP.n ?_
  refine zb 43 rfl (fun d1=>?_) (fun d1=>?_)
  ·have d2:(toS h a.id==0||toS h a.id==b.id)=true:=by rw [show (toS h a.id==0)=true from d1];rfl
   refine VSt.go za false [] 200 rfl AllP.n ?_
   refine zb 53 rfl (fun f1=>?_) (fun f1=>?_)
   ·refine VSt.go za false [] 200 rfl AllP.n ?_
    refine EndsP.mk rfl rfl rfl ?_
    show bv _=bv _
    rw [z3K h40 d2,show (frS h b.id==0)=true from f1];rfl
   ·refine VSt.go za false [] 200 rfl AllP.n ?_
    refine EndsP.mk rfl rfl rfl ?_
    show bv _=bv _
    rw [z3K h40 d2,show (frS h b.id==0)=false from f1];rfl
  ·refine VSt.go za false [] 200 rfl AllP.n ?_
   refine zb 50 rfl (fun e1=>?_) (fun e1=>?_)
   ·have d2:(toS h a.id==0||toS h a.id==b.id)=true:=by rw [show (toS h a.id==0)=false from d1,show (toS h a.id==b.id)=true from e1];rfl
    refine VSt.go za false [] 200 rfl AllP.n ?_
    refine zb 53 rfl (fun f1=>?_) (fun f1=>?_)
    ·refine VSt.go za false [] 200 rfl AllP.n ?_
     refine EndsP.mk rfl rfl rfl ?_
     show bv _=bv _
     rw [z3K h40 d2,show (frS h b.id==0)=true from f1];rfl
    ·refine VSt.go za false [] 200 rfl AllP.n ?_
     refine EndsP.mk rfl rfl rfl ?_
     show bv _=bv _
     rw [z3K h40 d2,show (frS h b.id==0)=false from f1];rfl
   ·refine VSt.go za false [] 200 rfl AllP.n ?_
    refine EndsP.mk rfl rfl rfl ?_
    show bv _=bv _
    rw [zdu (by rw [show (toS h a.id==0)=false from d1,show (toS h a.id==b.id)=false from e1];rfl)]
 refine VSt.go za false [] 200 rfl AllP.n ?_
 refine EndsP.mk rfl rfl rfl ?_
 show bv _=bv _
 rw [znt (by rw [show (a.catch_==b.first)=false from hA,show (a.catch_==0)=false from hB,show (b.first==0)=false from hC];rfl)]
def zkg (h:Hp) (x y:Sht):Bool:=h.sw.all fun t=>(t.fro==x.id)==(t.too==y.id)
def zhE (h:Hp) (i k:Nat) (x y:Sht):Bool:=!(i==k||(!(x.paper==y.paper)||(!(x.catch_==y.first)&&(!(x.catch_==0) && !(y.first==0)))))&&zkg h x y
theorem z6h {b:Bool}:AImp (.lit b) (bv b):=fun _ _ _ _ _ h=>by
 cases h;exact .p (.bool _)
theorem zhi {w:List Sew} {id:Int} {j:Nat} (h1:(zB w j).fro=id) (hu:∀ i,i<w.length→(zB w i).fro=id→i=j):∀ k,j<k→k≤w.length→toK w id k=(zB w j).too
 | 0,h,_=>absurd h (Nat.not_lt_zero j)
 | k+1,h,hl=>by
  show (bif (zB w k).fro==id then (zB w k).too else toK w id k)=_
  by_cases e:(zB w k).fro=id
  ·rw [hu k hl e,h1,beq_self_eq_true];rfl
  ·rw [beq_false_of_ne e]
   have:j≠k:=fun g=>e (by rw [←g];exact h1)
   exact zhi h1 hu k (by omega) (by omega)
theorem zeo {w:List Sew} {id:Int}:∀ k,k≤w.length→(∀ i,i<k→(zB w i).fro≠id)→toK w id k=0
 | 0,_,_=>rfl
 | k+1,hl,h=>by
  show (bif (zB w k).fro==id then (zB w k).too else toK w id k)=_
  rw [beq_false_of_ne (h k (Nat.lt_succ_self k))]
  exact zeo k (by omega) fun i hi=>h i (by omega)
theorem ziT {w:List Sew} {id:Int} {j:Nat} (h1:(zB w j).too=id) (hu:∀ i,i<w.length→(zB w i).too=id→i=j):∀ k,j<k→k≤w.length→frK w id k=(zB w j).fro
 | 0,h,_=>absurd h (Nat.not_lt_zero j)
 | k+1,h,hl=>by
  show (bif (zB w k).too==id then (zB w k).fro else frK w id k)=_
  by_cases e:(zB w k).too=id
  ·rw [hu k hl e,h1,beq_self_eq_true];rfl
  ·rw [beq_false_of_ne e]
   have:j≠k:=fun g=>e (by rw [←g];exact h1)
   exact ziT h1 hu k (by omega) (by omega)
theorem zfi {w:List Sew} {id:Int}:∀ k,k≤w.length→(∀ i,i<k→(zB w i).too≠id)→frK w id k=0
 | 0,_,_=>rfl
 | k+1,hl,h=>by
  show (bif (zB w k).too==id then (zB w k).fro else frK w id k)=_
  rw [beq_false_of_ne (h k (Nat.lt_succ_self k))]
  exact zfi k (by omega) fun i hi=>h i (by omega)
theorem OkH.fro_lt {h:Hp} (n:OkH h):∀ {p q:Nat},p<q→q<h.sw.length→(zB h.sw p).fro<(zB h.sw q).fro:=by
 intro p q hpq hq
 obtain ⟨d,rfl⟩:∃ d,q=p+1+d:=⟨q - (p+1),by omega⟩
 clear hpq
 induction d with
 | zero=>exact n.froms (p+1) (by omega) hq
 | succ d ih =>
  have h1:=ih (by omega)
  have h2:=n.froms (p+1+d+1) (by omega) hq
  rw [show p+1+d+1 - 1=p+1+d by omega] at h2
  exact Int.lt_trans h1 h2
theorem OkH.fro_inj {h:Hp} (n:OkH h) {p q:Nat} (hp:p<h.sw.length) (hq:q<h.sw.length) (e:(zB h.sw p).fro=(zB h.sw q).fro):p=q:=by
 rcases Nat.lt_trichotomy p q with g | g | g
 ·have:=n.fro_lt g hq;omega
 ·exact g
 ·have:=n.fro_lt g hp;omega
theorem OkH.too_inj {h:Hp} (n:OkH h) {p q:Nat} (hp:p<h.sw.length) (hq:q<h.sw.length) (e:(zB h.sw p).too=(zB h.sw q).too):p=q:=by
 rcases Nat.lt_trichotomy p q with g | g | g
 ·exact absurd e (n.toos q hq p g)
 ·exact g
 ·exact absurd e.symm (n.toos p hp q g)
theorem OkH.pos {h:Hp} (n:OkH h) {j:Nat} (hj:j<h.sw.length):1≤(zB h.sw j).fro∧1≤(zB h.sw j).too:=by
 obtain ⟨a,b,ha,hb,e1,e2,_⟩:=n.sewn j hj
 have h1:=(wth_iff.1 (n.ok a ha).id).1
 have h2:=(wth_iff.1 (n.ok b hb).id).1
 exact ⟨by rw [←e1];exact h1,by rw [←e2];exact h2⟩
theorem z3R {h:Hp} (n:OkH h) (id:Int):(∃ j,j<h.sw.length∧(zB h.sw j).fro=id∧toS h id=(zB h.sw j).too)∨((∀ j,j<h.sw.length→(zB h.sw j).fro≠id)∧toS h id=0):=by
 by_cases c:∃ j,j<h.sw.length∧(zB h.sw j).fro=id
 ·obtain ⟨j,hj,e⟩:=c
  exact .inl ⟨j,hj,e,zhi e (fun i hi g=>n.fro_inj hi hj (g.trans e.symm)) _ hj (ym _)⟩
 ·have:∀ j,j<h.sw.length→(zB h.sw j).fro≠id:=fun j hj e=>c ⟨j,hj,e⟩
  exact .inr ⟨this,zeo _ (ym _) this⟩
theorem z4d {h:Hp} (n:OkH h) (id:Int):(∃ j,j<h.sw.length∧(zB h.sw j).too=id∧frS h id=(zB h.sw j).fro)∨((∀ j,j<h.sw.length→(zB h.sw j).too≠id)∧frS h id=0):=by
 by_cases c:∃ j,j<h.sw.length∧(zB h.sw j).too=id
 ·obtain ⟨j,hj,e⟩:=c
  exact .inl ⟨j,hj,e,ziT e (fun i hi g=>n.too_inj hi hj (g.trans e.symm)) _ hj (ym _)⟩
 ·have:∀ j,j<h.sw.length→(zB h.sw j).too≠id:=fun j hj e=>c ⟨j,hj,e⟩
  exact .inr ⟨this,zfi _ (ym _) this⟩
theorem zoK {h:Hp} (n:OkH h) {a b:Int}:(toS h a==0||toS h a==b)=true ↔ ∀ j,j<h.sw.length→(zB h.sw j).fro=a→(zB h.sw j).too=b:=by
 rw [Bool.or_eq_true,beq_iff_eq,beq_iff_eq]
 rcases z3R n a with ⟨j,hj,e,e2⟩ | ⟨g,e2⟩
 ·rw [e2]
  have:=(n.pos hj).2
  refine ⟨fun c i hi ei=>?_,fun c=>.inr (c j hj e)⟩
  rw [n.fro_inj hi hj (ei.trans e.symm)]
  rcases c with c | c
  ·omega
  ·exact c
 ·exact ⟨fun _ j hj e=>absurd e (g j hj),fun _=>.inl e2⟩
theorem zpC {h:Hp} (n:OkH h) {a b:Int}:(frS h b==0||frS h b==a)=true ↔ ∀ j,j<h.sw.length→(zB h.sw j).too=b→(zB h.sw j).fro=a:=by
 rw [Bool.or_eq_true,beq_iff_eq,beq_iff_eq]
 rcases z4d n b with ⟨j,hj,e,e2⟩ | ⟨g,e2⟩
 ·rw [e2]
  have:=(n.pos hj).1
  refine ⟨fun c i hi ei=>?_,fun c=>.inr (c j hj e)⟩
  rw [n.too_inj hi hj (ei.trans e.symm)]
  rcases c with c | c
  ·omega
  ·exact c
 ·exact ⟨fun _ j hj e=>absurd e (g j hj),fun _=>.inl e2⟩
theorem same_iff {h:Hp} {x y:Sht}:zkg h x y=true ↔ ∀ j,j<h.sw.length→((zB h.sw j).fro=x.id ↔ (zB h.sw j).too=y.id):=by
 unfold zkg
 rw [List.all_eq_true]
 have key:∀ t:Sew,((t.fro==x.id)==(t.too==y.id))=true ↔ (t.fro=x.id ↔ t.too=y.id):=fun t=>by
  rw [beq_iff_eq,Bool.eq_iff_iff,beq_iff_eq,beq_iff_eq]
 refine ⟨fun g j hj=>(key _).1 (g _ (z09 hj)),fun g t ht=>?_⟩
 obtain ⟨j,hj,rfl⟩:=z0y (d:=default) ht
 exact (key _).2 (g j hj)
theorem zoO {h:Hp} (n:OkH h) (x y:Sht):((toS h x.id==0||toS h x.id==y.id)&&(frS h y.id==0||frS h y.id==x.id))=zkg h x y:=by
 rw [Bool.eq_iff_iff,yw,zoK n,zpC n,same_iff]
 exact ⟨fun g j hj=>⟨g.1 j hj,g.2 j hj⟩,fun g=>⟨fun j hj=>(g j hj).1,fun j hj=>(g j hj).2⟩⟩
theorem zqi (l:List Sht) (p:Int):(zJ l p).length=cnt l p:=rfl
theorem zds {a:Int}:(!(a==a))=true→False:=fun h=>by rw [beq_self_eq_true] at h;exact absurd h (by decide)
theorem zmQ {b1 b2:Bool} {l:List Int} (hn:l.length<9223372036854775808):VP (sE r) 25 [.p (z1V b1 l),.p (z1V b2 l)] (bv true):=by
 refine VP.of (fn:=Tryz.f25) za (zD rfl) (by kernel_rfl) rfl rfl rfl ?_
 refine VSt.go za false [] 200 rfl AllP.n ?_
 refine VSt.cond rfl (fun h=>(zds (show (!(Int.ofNat l.length==Int.ofNat l.length))=true from h)).elim) (fun _=>?_)
 refine VSt.go za false [] 200 rfl AllP.n ?_
 refine z0G (ti:=5) l.length [0,1] (fun _=>[]) (fun _=>[]) (fun _=>True) rfl rfl z0X trivial trivial (fun k hk hp=>?_)
 refine VSt.go za false [] 200 rfl AllP.n ?_
 refine VSt.cond rfl (fun g=>?_) (fun g=>?_)
 ·have g:=nlt g
  refine VSt.go za false [] 200 rfl (AllP.c ‹_› (AllP.c rfl (AllP.c ‹_› (AllP.c rfl AllP.n)))) ?_
  refine VSt.cond rfl (fun h1=>?_) (fun _=>?_)
  ·exact (zds (show (!(l.getD k 0==l.getD k 0))=true from h1)).elim
  ·refine VSt.go za false [] 200 rfl (AllP.c (by unfold inR;(try simp only [yl]);omega) AllP.n) ?_
   exact ⟨g,by (refine Vw.drop (by repeat (first | exact zw | refine zo rfl rfl rfl ?_ | refine z0k rfl ‹_› (z08 _ ‹_›) ?_))),trivial⟩
 ·have g:k=l.length:=by have:=nge g;omega
  subst g
  refine VSt.go za false [] 200 rfl AllP.n ?_
  exact EndsP.mk rfl rfl rfl rfl
theorem ziF {m k:Nat} (hk:k<64) (hm:m<9223372036854775808):VP (sE r) 142 [iv (Int.ofNat m),nv k] (bv (m.testBit k)):=by
 refine VP.of (fn:=Tryz.f142) za (zD rfl) (by kernel_rfl) rfl rfl rfl ?_
 have h1:m >>> k<9223372036854775808:=by
  rw [Nat.shiftRight_eq_div_pow];exact Nat.lt_of_le_of_lt (Nat.div_le_self _ _) hm
 refine VSt.go za false [] 200 rfl ((AllP.c hk (AllP.c h1 (AllP.c (by decide) AllP.n)))) ?_
 refine EndsP.mk rfl rfl rfl ?_
 show bv _=bv _
 congr 1
 rw [Nat.testBit_eq_decide_div_mod_eq,Nat.shiftRight_eq_div_pow,Nat.and_one_is_mod,Bool.eq_iff_iff,beq_iff_eq,decide_eq_true_iff]
 simp only [yl]
 omega
theorem zgN {m k:Nat} (hk:k<62) (hm:m<9223372036854775808):VP (sE r) 136 [iv (Int.ofNat m),nv k] (iv (Int.ofNat (m ||| 1 <<< k))):=by
 refine VP.of (fn:=Tryz.f136) za (zD rfl) (by kernel_rfl) rfl rfl rfl ?_
 have h1:1 <<< k<9223372036854775808:=by
  rw [Nat.one_shiftLeft];exact yo (Nat.pow_lt_pow_right (by decide) hk) (by decide)
 refine VSt.go za false [] 200 rfl ((AllP.c (show k<64 by omega) (AllP.c h1 (AllP.c hm (AllP.c h1 AllP.n))))) ?_
 exact EndsP.mk rfl rfl rfl rfl
def z7q:List Nat→Nat
 | []=>0
 | i::l=>z7q l ||| 1 <<< i
theorem zd6:∀ (l:List Nat) (k:Nat),(z7q l).testBit k=l.contains k
 | [],k=>by show (0:Nat).testBit k=_;rw [Nat.zero_testBit];rfl
 | i::l,k=>by
  show (z7q l ||| 1 <<< i).testBit k=_
  rw [Nat.testBit_or,zd6 l k,Nat.one_shiftLeft,Nat.testBit_two_pow,List.contains_cons,Bool.or_comm]
  congr 1
  rw [Bool.eq_iff_iff,decide_eq_true_iff,beq_iff_eq];exact eq_comm
theorem zhc:∀ {l:List Nat},(∀ i∈l,i<60)→z7q l<1152921504606846976
 | [],_=>by decide
 | i::l,h=>by
  show z7q l ||| 1 <<< i<2 ^ 60
  refine Nat.or_lt_two_pow (zhc fun k hk=>h k (List.mem_cons_of_mem _ hk)) ?_
  rw [Nat.one_shiftLeft]
  exact Nat.pow_lt_pow_right (by decide) (h i (List.mem_cons_self ..))
theorem zhb {l:List Nat} {k:Nat} (h:l.contains k=false):(z7q l ||| 1 <<< k) ^^^ ((z7q l ||| 1 <<< k) &&& 1 <<< k)=z7q l:=by
 refine Nat.eq_of_testBit_eq fun i=>?_
 rw [Nat.testBit_xor,Nat.testBit_and,Nat.testBit_or,Nat.one_shiftLeft,Nat.testBit_two_pow]
 by_cases e:k=i
 ·subst e
  rw [zd6,h,decide_eq_true rfl];rfl
 ·rw [decide_eq_false e];cases (z7q l).testBit i <;> rfl
def okR (h:Hp) (l:List Sht) (row:List Nat) (i:Nat):Bool:=!row.contains i&&match row with
 | []=>frS h (zi l i).id==0
 | j::_=>mayB h (zi l j) (zi l i)
def z4O (h:Hp) (l:List Sht):Nat→List Nat→List (List Nat)
 | 0,row=>[row]
 | f+1,row=>(List.range l.length).flatMap fun i=>bif okR h l row i then z4O h l f (i::row) else []
def zaT (h:Hp) (l:List Sht) (f:Nat) (row:List Nat):Nat→List (List Nat)
 | 0=>[]
 | k+1=>zaT h l f row k++bif okR h l row k then z4O h l f (k::row) else []
theorem z9S {α : Type} (g:Nat→List α):∀ n,(List.range (n+1)).flatMap g=(List.range n).flatMap g++g n:=fun n=>by
 rw [List.range_succ,List.flatMap_append];simp
theorem zfg {h:Hp} {l:List Sht} {f:Nat} {row:List Nat}:zaT h l f row l.length=z4O h l (f+1) row:=by
 have:∀ k,zaT h l f row k=(List.range k).flatMap fun i=>bif okR h l row i then z4O h l f (i::row) else []:=fun k=>by
  induction k with
  | zero=>rfl
  | succ k ih=>rw [z9S,←ih];rfl
 exact this _
def z7s (h:Hp) (l:List Sht):List (List Nat):=z4O h l l.length []
def zQ (l:List Sht) (row:List Nat):List Sht:=row.reverse.map fun i=>zi l i
theorem z0x {l:List Sht} {row:List Nat}:(zQ l row).length=row.length:=by unfold zQ;rw [List.length_map,List.length_reverse]
theorem z8g {l:List Sht} {row:List Nat} {i:Nat}:zQ l (i::row)=zQ l row++[zi l i]:=by
 unfold zQ;rw [List.reverse_cons,List.map_append];rfl
theorem z8h {l:List Sht} {row:List Nat} {i:Nat}:zi (zQ l (i::row)) row.length=zi l i:=by
 rw [z8g];unfold zi
 rw [List.getD_eq_getElem?_getD,List.getElem?_append_right (by rw [z0x];exact ym _),z0x,Nat.sub_self];rfl
theorem z5B {l:List Sht} {row:List Nat} {i k:Nat} (hk:k<row.length):zi (zQ l (i::row)) k=zi (zQ l row) k:=by
 rw [z8g];unfold zi
 simp only [List.getD_eq_getElem?_getD]
 rw [List.getElem?_append_left (by rw [z0x];exact hk)]
theorem zbf (s:List Nat):(s.all (inB s))=true:=by
 rw [List.all_eq_true]
 intro x hx
 unfold inB
 rw [List.any_eq_true]
 exact ⟨x,hx,Nat.beq_refl x⟩
theorem zn8 {n:Nat}:decide (0<Int.ofNat (n+1))=true:=decide_eq_true (by simp only [yl];omega)
theorem zat {n:Nat}:Int.ofNat (n+1) - 1=Int.ofNat n:=by simp only [yl];omega
def zqs (h:Hp) (b:Bool) (l:List Sht):AV:=.fn 151 [] [.ref 2 0,.p (.fp [z0M b l] 0),.ref 1 0,.p (.fp (eHp h) 0),.ref 3 0,.ref 4 0]
def z6u (h:Hp) (b:Bool) (l:List Sht) (lp:VB) (k u:Nat) (g:Nat→Sht) (X:VS):VS :=
 (0,lp)::(1,.cells [.yld 0] 141)::(2,.cells [.sl 5 6 0 k l.length 1] 22)::(3,.cells [iv (Int.ofNat u)] 113)::(4,.cells [zqs h b l] 42)::(5,.arr l.length 6 (fun q=>zX (g q)) 74)::X
abbrev s5 (s:List Nat):List Nat:=0::1::2::3::4::5::s
theorem z8s {h:Hp} {l:List Sht} {row:List Nat} {k:Nat} (e:row.contains k=true):okR h l row k=false:=by unfold okR;rw [e];rfl
theorem zaB {h:Hp} {l:List Sht} {k:Nat}:okR h l [] k=(frS h (zi l k).id==0):=rfl
theorem z4v {h:Hp} {l:List Sht} {j:Nat} {row:List Nat} {k:Nat} (e:(j::row).contains k=false):okR h l (j::row) k=mayB h (zi l j) (zi l k):=by unfold okR;rw [e];rfl
def zs5 (r:Rm) (h:Hp) (b:Bool) (l:List Sht) (N:Nat) (s:List Nat) (G:VK) (ps:List Tmp) (asg body:Code) (row:List Nat) (I:VS→Prop) (J:LExit→VS→Prop):zK:=fun e F2 L2 =>
 (e = .normal∧∃ F0 g X,Vw (sE r) (s5 s) F2 L2 F0 (z6u h b l (.loop .busy none G N ps asg body) row.length (z7q row) g X)∧(∀ k,k<row.length→g k=zi (zQ l row) k)∧I X) ∨
 (zk e=false∧∃ F0 g X G3,Vw (sE r) (s5 s) F2 L2 F0 (z6u h b l (.loop .busy none G3 N ps asg body) row.length (z7q row) g X)∧J e X)
def zrJ (r:Rm) (h:Hp) (b:Bool) (l:List Sht) (N:Nat) (s:List Nat) (G:VK) (ps:List Tmp) (asg body:Code) (row:List Nat) (I:VS→Prop) (J:LExit→VS→Prop):zK:=fun e F1 L1 =>
 e = .normal∧∃ G2,bk L1 0=some (.loop .ready none G2 N ps asg body)∧VSt.H (sE r) N (s5 s) none (zs5 r h b l N s G ps asg body row I J) (.code body [] F1 (up L1 0 (.loop .busy none G2 N ps asg body)))
def zrp (h:Hp) (b:Bool) (l:List Sht) (N:Nat) (G:VK) (ps:List Tmp) (asg body:Code) (row:List Nat) (I:VS→Prop) (J:LExit→VS→Prop) (a:AV) (L':VS):Prop :=
 (a=bv true∧∃ g X,L'=z6u h b l (.loop .ready none G N ps asg body) row.length (z7q row) g X∧(∀ k,k<row.length→g k=zi (zQ l row) k)∧I X) ∨
 (a=bv false∧∃ g X e G3,zk e=false∧L'=z6u h b l (.loop .done (codeOf e) G3 N ps asg body) row.length (z7q row) g X∧J e X)
theorem zoe {s:Sht} {g:Nat→Sht} {m i:Nat}:(bif (0+m).ble i&&i.blt (0+m+1) then (fun k=>List.take 6 (List.drop (k*6) (zX s))) (i - (0+m)) else (fun q=>zX (g q)) i)=zX (if i=m then s else g i):=by
 rw [Nat.zero_add]
 by_cases e:i=m
 ·subst e
  rw [if_pos rfl,show Nat.ble i i=true from z3m (ym _),z9a (Nat.lt_succ_self i)]
  show List.take 6 (List.drop ((i - i)*6) (zX s))=_
  rw [Nat.sub_self];rfl
 ·rw [if_neg e]
  by_cases c:m≤i
  ·rw [z9q (show ¬ i<m+1 by omega),Bool.and_false];rfl
  ·rw [show Nat.ble m i=false by rw [←Bool.not_eq_true];exact fun h=>c (zF h)];rfl
theorem zff {h:Hp} {l:List Sht} {f:Nat} {row:List Nat} {k:Nat}:∀ d,∃ t,zaT h l f row (k+d)=zaT h l f row k++t
 | 0=>⟨[],(List.append_nil _).symm⟩
 | d+1=>by
  obtain ⟨t,e⟩:=zff (h:=h) (l:=l) (f:=f) (row:=row) (k:=k) d
  exact ⟨t++bif okR h l row (k+d) then z4O h l f ((k+d)::row) else [],by rw [←List.append_assoc,←e];rfl⟩
theorem znL {h:Hp} {l:List Sht} {f:Nat} {row:List Nat} {k q:Nat} (hk:k<l.length) (hok:okR h l row k=true) (hq:q<(z4O h l f (k::row)).length):(z4O h l (f+1) row)[(zaT h l f row k).length+q]? = (z4O h l f (k::row))[q]? ∧ (zaT h l f row k).length+q<(z4O h l (f+1) row).length:=by
 obtain ⟨t,e⟩:=zff (h:=h) (l:=l) (f:=f) (row:=row) (k:=k+1) (l.length - (k+1))
 rw [show k+1+(l.length - (k+1))=l.length by omega,zfg] at e
 have e2:zaT h l f row (k+1)=zaT h l f row k++z4O h l f (k::row):=by
  show zaT h l f row k++(bif okR h l row k then z4O h l f (k::row) else [])=_
  rw [hok];rfl
 rw [e,e2,List.append_assoc]
 refine ⟨?_,?_⟩
 ·rw [List.getElem?_append_right (by omega),Nat.add_sub_cancel_left,List.getElem?_append_left hq]
 ·rw [List.length_append,List.length_append];omega
theorem ways {A B O T G:Prop} (hab:A∨B) (tail:O→T) (ha:A→(O→T)→G) (hb:B→(O→T)→G):G:=hab.elim (fun h=>ha h tail) fun h=>hb h tail
set_option maxHeartbeats 8000000 in
theorem step_ok {h:Hp} {b:Bool} {l:List Sht} (hl:l.length<60) (hw:h.sw.length<9223372036854775808) {N:Nat} {G G1:VK} {ps:List Tmp} {asg body:Code} (s:List Nat) (R:List (List Nat)) (I:Nat→VS→Prop) (J:LExit→VS→Prop)
  (hk:z7x N ps [.sl 5 6 0 l.length l.length 1] G=some G1)
  (hround:∀ q row g X,R[q]? = some row→row.length=l.length→(∀ k,k<row.length→g k=zi (zQ l row) k)→I q X→VSt.H (sE r) N (s5 s) none (zrJ r h b l N s G ps asg body row (I (q+1)) J) (.code asg [] G1 (z6u h b l (.loop .ready none G N ps asg body) row.length (z7q row) g X))) :
  ∀ f row o g X,f+row.length=l.length→(∀ i∈row,i<l.length)→(∀ k,k<(z4O h l f row).length→R[o+k]? = (z4O h l f row)[k]?)→(∀ k,k<row.length→g k=zi (zQ l row) k)→I o X →
   VC (sE r) (s5 s) 151 [.ref 2 0,.p (.fp [z0M b l] 0),.ref 1 0,.p (.fp (eHp h) 0),.ref 3 0,.ref 4 0] (z6u h b l (.loop .ready none G N ps asg body) row.length (z7q row) g X)
    (zrp h b l N G ps asg body row (I (o+(z4O h l f row).length)) J):=by
 intro f
 induction f with
 | zero =>
  intro row o g X hn _ hR hg hI
  have hn:row.length=l.length:=by omega
  have hR0:R[o]? = some row:=hR 0 (by show 0<1;decide)
  have hrd:=hround o row g X hR0 hn hg hI
  refine z7o (fn:=Tryz.f151) za (zD rfl) (by kernel_rfl) rfl rfl ?_
  unfold z6u at hrd ⊢
  refine zg za false [] 200 rfl AllP.n ?_
  refine VSt.cond rfl (fun _=>?_) (fun q=>?_)
  ·refine zg za false [] 200 rfl AllP.n ?_
   refine VSt.yieldN (s5 s) rfl rfl rfl rfl rfl rfl rfl (by rw [hn];exact hk) rfl rfl (zbf _) (VW.mono hrd ?_)
   refine fun e F1 L1' h=>⟨h.1,h.2.elim fun G2 h2=>⟨G2,h2.1,VW.mono h2.2 ?_⟩⟩
   refine fun e F2 L2 h=>?_
   rcases h with ⟨he,F0,g',X',hv,hg',hI'⟩ | ⟨he,F0,g',X',G3,hv,hJ⟩
   ·subst he
    refine ⟨F0,_,none,G,hv,rfl,?_⟩
    refine zg za false [] 200 rfl AllP.n ?_
    exact ⟨rfl,_,rfl,.inl ⟨rfl,g',X',rfl,hg',hI'⟩⟩
   ·refine ⟨F0,_,none,G3,hv,rfl,?_⟩
    rw [he]
    refine zg za false [] 200 rfl AllP.n ?_
    exact ⟨rfl,_,rfl,.inr ⟨rfl,g',X',e,G3,he,rfl,hJ⟩⟩
  ·have q:(Int.ofNat row.length==Int.ofNat l.length)=false:=q
   rw [hn,beq_self_eq_true] at q;cases q
 | succ f ih =>
  intro row o g X hn hlt hR hg hI
  have hu:=zhc (l:=row) (fun i hi=>Nat.lt_trans (hlt i hi) hl)
  refine z7o (fn:=Tryz.f151) za (zD rfl) (by kernel_rfl) rfl rfl ?_
  unfold z6u
  refine zg za false [] 200 rfl AllP.n ?_
  refine VSt.cond rfl (fun q=>?_) (fun q=>?_)
  ·have q:(Int.ofNat row.length==Int.ofNat l.length)=true:=q
   have:=eq_of_beq q
   simp only [yl] at this
   omega
  refine zg za false [] 200 rfl AllP.n ?_
  refine VSt.range za l.length (by omega) (fun k F L=>F=[(20,.p (z0M b l)),(0,.ref 2 0),(2,.ref 1 0),(3,.p (.fp (eHp h) 0)),(4,.ref 3 0),(5,.ref 4 0)]∧∃ g X,L=z6u h b l (.loop .ready none G N ps asg body) row.length (z7q row) g X∧(∀ k,k<row.length→g k=zi (zQ l row) k)∧I (o+(zaT h l f row k).length) X) rfl rfl
   ⟨[(20,.p (z0M b l)),(0,.ref 2 0),(2,.ref 1 0),(3,.p (.fp (eHp h) 0)),(4,.ref 3 0),(5,.ref 4 0)],_,(by (refine Vw.sub' (z9h (by repeat (first | exact z0v | refine z0J rfl ?_))))),rfl,g,X,rfl,hg,hI⟩ ?_ ?_
  ·rintro k F L hk1 ⟨rfl,g,X,rfl,hg,hI⟩
   unfold z6u
   refine zg za false [24] 200 rfl AllP.n ?_
   refine VSt.fr 6 [(22,nv k),(20,.p (z0M b l))] [(22,nv k),(21,nv l.length),(20,.p (z0M b l)),(0,.ref 2 0),(2,.ref 1 0),(3,.p (.fp (eHp h) 0)),(4,.ref 3 0),(5,.ref 4 0)] 5 (by repeat (first | exact z0v | refine z0J rfl ?_)) (by repeat (first | exact z0v | refine z0J rfl ?_)) rfl rfl rfl ?_
   refine VSt.go za false [] 200 rfl (AllP.c ‹_› (AllP.c rfl AllP.n)) ?_
   refine ⟨rfl,[(7,nv k),(8,.p (.fp (zX (zi l k)) 0))],(fun q=>zX (g q)),Vw.trans (z00 6 (zX (zi l k)) rfl rfl) (Vw.kp [7,8] [(5,5)] rfl),rfl,?_⟩
   refine zg za false [] 200 rfl AllP.n ?_
   refine VSt.pc rfl rfl rfl rfl rfl rfl rfl rfl ((zah (h:=h) (id:=(zi l k).id) hw)) ?_
   refine zg za false [] 200 rfl AllP.n ?_
   refine z2U rfl rfl rfl rfl rfl rfl rfl rfl ((ziF (m:=z7q row) (k:=k) (by omega) (by omega))) ?_
   refine zg za false [] 200 rfl AllP.n ?_
   refine z0f 37 (bv (row.contains k)) rfl (z04 (by rw [zd6])) ?_
   have hgk:zaT h l f row (k+1)=zaT h l f row k++bif okR h l row k then z4O h l f (k::row) else []:=rfl
   have hskip:okR h l row k=false→zaT h l f row (k+1)=zaT h l f row k:=fun e=>by rw [hgk,e];exact List.append_nil _
   refine z05 37 rfl (fun hc=>?_) (fun hc=>?_)
   ·have hc:row.contains k=true:=hc
    refine zg za false [] 200 rfl AllP.n ?_
    refine ⟨_,_,(by (refine Vw.sub' (z9h (by repeat (first | exact z0v | refine z0J rfl ?_))))),⟨rfl,g,X,rfl,hg,?_⟩,rfl⟩
    rw [hskip (z8s hc)];exact hI
   have hc:row.contains k=false:=hc
   have hrc:row=[]∨∃ j row',row=j::row':=by cases row with
    | nil=>exact .inl rfl
    | cons j row'=>exact .inr ⟨j,row',rfl⟩
   refine ways (O:=okR h l row k=true) (T:=?T) hrc ?tail ?ha ?hb
   case ha =>
    intro hrow tail
    refine zg za false [] 200 rfl AllP.n ?_
    refine z0f 41 (bv false) rfl (z04 (by rw [hrow];rfl)) ?_
    refine z05 41 rfl (fun q1=>?_) (fun q1=>?_)
    ·exact absurd q1 (by decide)
    refine zg za false [] 200 rfl AllP.n ?_
    refine z0f 58 (bv true) rfl (z04 (by rw [hrow];rfl)) ?_
    refine z05 58 rfl (fun q2=>?_) (fun q2=>?_)
    rotate_left
    ·exact absurd q2 (by decide)
    refine zg za false [] 200 rfl AllP.n ?_
    refine VSt.cond rfl (fun q3=>?_) (fun q3=>?_)
    ·have q3:(!(frS h (zi l k).id==0))=true:=q3
     refine zg za false [] 200 rfl AllP.n ?_
     refine ⟨_,_,(by (refine Vw.sub' (z9h (by repeat (first | exact z0v | refine z0J rfl ?_))))),⟨rfl,g,X,rfl,hg,?_⟩,rfl⟩
     rw [hskip (by rw [hrow,zaB];simpa using q3)];exact hI
    have q3:(!(frS h (zi l k).id==0))=false:=q3
    refine zg za false [63] 200 rfl AllP.n ?_
    refine zf (F0:=[(7,nv k),(8,.p (.fp (zX (zi l k)) 0)),(22,nv k),(21,nv l.length),(20,.p (z0M b l)),(0,.ref 2 0),(2,.ref 1 0),(3,.p (.fp (eHp h) 0)),(4,.ref 3 0),(5,.ref 4 0)]) (by (refine Vw.sub' (z9h (by repeat (first | exact z0v | refine z0J rfl ?_))))) ?_
    exact tail (by rw [hrow,zaB];simpa using q3)
   case hb =>
    intro hx tail
    refine hx.elim fun j hx=>hx.elim fun row' hrow=>?_
    have hlr:row.length=row'.length+1:=by rw [hrow];rfl
    have hlen:row'.length<60:=by omega
    have hk2:row'.length<l.length:=by omega
    have hk3:row'.length<row.length:=by omega
    have hk4:0+row'.length<l.length:=by omega
    have hgj:g row'.length=zi l j:=by rw [hg row'.length hk3,hrow,z8h]
    have hc2:(j::row').contains k=false:=by rw [←hrow];exact hc
    refine zg za false [] 200 rfl AllP.n ?_
    refine z0f 41 (bv true) rfl (z04 (by rw [hlr,zn8])) ?_
    refine z05 41 rfl (fun q1=>?_) (fun q1=>?_)
    rotate_left
    ·exact absurd q1 (by decide)
    refine zg za false [46] 200 rfl AllP.n ?_
    refine z0f 45 (nv (row'.length+1)) rfl (z2y (by rw [hlr])) ?_
    refine zg za false [47] 200 rfl (AllP.c (by unfold inR;(try simp only [yl]);omega) AllP.n) ?_
    refine z0f 46 (nv row'.length) rfl (z2y zat) ?_
    refine zg za false [49] 200 rfl (AllP.c ‹_› (AllP.c rfl (AllP.c ‹_› (AllP.c rfl AllP.n)))) ?_
    refine z0f 48 (.agg ((zX (zi l j)).map .p)) rfl (z04 (by rw [Nat.zero_add,hgj];rfl)) ?_
    refine zg za false [] 200 rfl AllP.n ?_
    refine z2U rfl rfl rfl rfl rfl rfl rfl rfl ((zpo (h:=h) (a:=zi l j) (b:=zi l k) hw)) ?_
    refine zg za false [] 200 rfl AllP.n ?_
    refine z05 54 rfl (fun q3=>?_) (fun q3=>?_)
    ·have q3:(!mayB h (zi l j) (zi l k))=true:=q3
     refine zg za false [] 200 rfl AllP.n ?_
     refine ⟨_,_,(by (refine Vw.sub' (z9h (by repeat (first | exact z0v | refine z0J rfl ?_))))),⟨rfl,g,X,rfl,hg,?_⟩,rfl⟩
     rw [hskip (by rw [hrow,z4v hc2];simpa using q3)];exact hI
    have q3:(!mayB h (zi l j) (zi l k))=false:=q3
    refine zg za false [] 200 rfl AllP.n ?_
    refine z0f 58 (bv false) rfl (z04 (by rw [hlr];rfl)) ?_
    refine z05 58 rfl (fun q4=>?_) (fun q4=>?_)
    ·exact absurd q4 (by decide)
    refine zg za false [63] 200 rfl AllP.n ?_
    refine zf (F0:=[(7,nv k),(8,.p (.fp (zX (zi l k)) 0)),(22,nv k),(21,nv l.length),(20,.p (z0M b l)),(0,.ref 2 0),(2,.ref 1 0),(3,.p (.fp (eHp h) 0)),(4,.ref 3 0),(5,.ref 4 0)]) (by (refine Vw.sub' (z9h (by repeat (first | exact z0v | refine z0J rfl ?_))))) ?_
    exact tail (by rw [hrow,z4v hc2];simpa using q3)
   intro hok
   refine zg za false [65] 200 rfl AllP.n ?_
   refine VSt.fr 2 [(63,.sl 5 6 0 row.length l.length 1),(64,.agg ((zX (zi l k)).map .p))] [(7,nv k),(22,nv k),(21,nv l.length),(20,.p (z0M b l)),(0,.ref 2 0),(2,.ref 1 0),(3,.p (.fp (eHp h) 0)),(4,.ref 3 0),(5,.ref 4 0)] 5 (by repeat (first | exact z0v | refine z0J rfl ?_)) (by repeat (first | exact z0v | refine z0J rfl ?_)) rfl rfl rfl ?_
   have hroom:row.length+1≤l.length:=by omega
   refine VSt.go za false [] 200 rfl (AllP.c (by omega) (AllP.c (by omega) (AllP.c (fun q hq=>match q,hq with | 0,_=>rfl) (AllP.c rfl (AllP.c rfl (AllP.c ‹_› (AllP.c (by omega) AllP.n))))))) ?_
   refine ⟨rfl,[(66,.sl 5 6 0 (row.length+1) l.length 1)],(fun q=>zX (if q=row.length then zi l k else g q)),z0F (ps:=[(5,5)]) ⟨rfl,rfl,(by repeat (first | exact zw | refine zo rfl rfl rfl ?_)),_,rfl,⟨rfl,BImp.arr (fun q _=>zoe),trivial⟩⟩,rfl,?_⟩
   refine zg za false [] 200 rfl AllP.n ?_
   refine VSt.pc rfl rfl rfl rfl rfl rfl rfl rfl ((zgN (m:=z7q row) (k:=k) (by omega) (by omega))) ?_
   refine zg za false [71] 200 rfl AllP.n ?_
   have hlt':∀ i∈k::row,i<l.length:=fun i hi=>by
    rcases List.mem_cons.1 hi with rfl | hi
    ·exact hk1
    ·exact hlt i hi
   have hR':∀ q,q<(z4O h l f (k::row)).length→R[o+(zaT h l f row k).length+q]? = (z4O h l f (k::row))[q]? :=fun q hq=>by
    obtain ⟨e1,e2⟩:=znL (h:=h) (f:=f) (row:=row) hk1 hok hq
    rw [Nat.add_assoc,hR _ e2,e1]
   have hg':∀ q,q<(k::row).length→(if q=row.length then zi l k else g q)=zi (zQ l (k::row)) q:=fun q hq=>by
    have hq:q<row.length+1:=hq
    by_cases c:q=row.length
    ·rw [if_pos c,c,z8h]
    ·rw [if_neg c,hg q (by omega),z5B (by omega)]
   have hb1:1 <<< k<9223372036854775808:=by rw [Nat.one_shiftLeft];exact yo (Nat.pow_lt_pow_right (by decide) (show k<62 by omega)) (by decide)
   have hb2:z7q (k::row)<9223372036854775808:=Nat.lt_trans (zhc (fun i hi=>Nat.lt_trans (hlt' i hi) hl)) (by decide)
   have hC:=ih (k::row) (o+(zaT h l f row k).length) (fun q=>if q=row.length then zi l k else g q) X (by show f+(row.length+1)=_;omega) hlt' hR' hg' hI
   have hgn:zaT h l f row (k+1)=zaT h l f row k++z4O h l f (k::row):=by rw [hgk,hok];rfl
   refine VSt.ci (s5 s) rfl rfl rfl rfl rfl rfl rfl (zbf _) hC (fun a L' ha=>?_)
   rcases ha with ⟨rfl,g1,X1,rfl,hg1,hI1⟩ | ⟨rfl,g1,X1,e,G3,he,rfl,hJ1⟩
   ·unfold z6u
    refine zg za false [75] 200 rfl AllP.n ?_
    refine z0a 74 (nv (row.length+1)) rfl (AImp.refl _) ?_
    refine zg za false [76] 200 rfl (AllP.c (by unfold inR;(try simp only [yl]);omega) AllP.n) ?_
    refine z0a 75 (nv row.length) rfl (z2y zat) ?_
    refine zg za false [] 200 rfl (AllP.c (by omega) (AllP.c (by omega) (AllP.c (by omega) (AllP.c rfl (AllP.c (by omega) (AllP.c ‹_› (AllP.c ‹_› (AllP.c ‹_› AllP.n)))))))) ?_
    refine z02 (Vw.imp (L':=z6u h b l (.loop .ready none G N ps asg body) row.length (z7q row) g1 X1) ⟨rfl,BImp.refl _,rfl,BImp.refl _,rfl,BImp.refl _,rfl,BImp.cell1 (z2y (congrArg Int.ofNat (zhb hc))),rfl,BImp.refl _,rfl,BImp.refl _,LImp.refl _⟩) ?_
    unfold z6u
    refine VSt.cond rfl (fun q=>absurd q (by decide)) (fun _=>?_)
    refine zg za false [] 200 rfl AllP.n ?_
    refine ⟨_,_,(by (refine Vw.sub' (z9h (by repeat (first | exact z0v | refine z0J rfl ?_))))),⟨rfl,g1,X1,rfl,fun q hq=>?_,?_⟩,rfl⟩
    ·rw [hg1 q (Nat.lt_succ_of_lt hq),z5B hq]
    ·rw [hgn,List.length_append,←Nat.add_assoc];exact hI1
   ·unfold z6u
    refine zg za false [75] 200 rfl AllP.n ?_
    refine z0a 74 (nv (row.length+1)) rfl (AImp.refl _) ?_
    refine zg za false [76] 200 rfl (AllP.c (by unfold inR;(try simp only [yl]);omega) AllP.n) ?_
    refine z0a 75 (nv row.length) rfl (z2y zat) ?_
    refine zg za false [] 200 rfl (AllP.c (by omega) (AllP.c (by omega) (AllP.c (by omega) (AllP.c rfl (AllP.c (by omega) (AllP.c ‹_› (AllP.c ‹_› (AllP.c ‹_› AllP.n)))))))) ?_
    refine z02 (Vw.imp (L':=z6u h b l (.loop .done (codeOf e) G3 N ps asg body) row.length (z7q row) g1 X1) ⟨rfl,BImp.refl _,rfl,BImp.refl _,rfl,BImp.refl _,rfl,BImp.cell1 (z2y (congrArg Int.ofNat (zhb hc))),rfl,BImp.refl _,rfl,BImp.refl _,LImp.refl _⟩) ?_
    unfold z6u
    refine VSt.cond rfl (fun _=>?_) (fun q=>absurd q (by decide))
    refine zg za false [] 200 rfl AllP.n ?_
    exact ⟨rfl,_,rfl,.inr ⟨rfl,g1,X1,e,G3,he,rfl,hJ1⟩⟩
  ·rintro F L ⟨rfl,g,X,rfl,hg,hI⟩
   unfold z6u
   refine zg za false [] 200 rfl AllP.n ?_
   refine ⟨rfl,_,rfl,.inl ⟨rfl,g,X,rfl,hg,?_⟩⟩
   rw [←zfg];exact hI
theorem rows_ok {h:Hp} {b:Bool} {l:List Sht}:VP (sE r) 119 [.agg ((eHp h).map .p),.p (z0M b l)] (.fn 150 [] [.p (.fp [z0M b l] 0),.p (.fp (eHp h) 0)]):=by
 refine VP.of (fn:=Tryz.f119) za (zD rfl) (by kernel_rfl) rfl rfl rfl ?_
 refine VSt.go za false [4] 200 rfl AllP.n ?_
 refine zf (z00 0 (eHp h) rfl rfl) ?_
 refine zf (z00 1 [z0M b l] rfl rfl) ?_
 refine VSt.go za false [] 200 rfl AllP.n ?_
 exact EndsP.mk rfl rfl rfl rfl
def zrq (h:Hp) (b:Bool) (l:List Sht) (N:Nat) (G:VK) (ps:List Tmp) (asg body:Code) (I:VS→Prop) (J:LExit→VS→Prop) (L':VS):Prop :=
 (∃ g X,L'=z6u h b l (.loop .ready none G N ps asg body) 0 0 g X∧I X)∨(∃ g X e G3,zk e=false∧L'=z6u h b l (.loop .done (codeOf e) G3 N ps asg body) 0 0 g X∧J e X)
set_option maxHeartbeats 4000000 in
theorem zkk {h:Hp} {b:Bool} {l:List Sht} (hl:l.length<60) (hw:h.sw.length<9223372036854775808) {N:Nat} {G G1:VK} {ps:List Tmp} {asg body:Code} {X:VS} (s:List Nat) (I:Nat→VS→Prop) (J:LExit→VS→Prop) (hX:∀ i,i<10→bk X i=none) (hI:I 0 X)
  (hk:z7x N ps [.sl 5 6 0 l.length l.length 1] G=some G1)
  (hround:∀ q row g X,(z7s h l)[q]? = some row→row.length=l.length→(∀ k,k<row.length→g k=zi (zQ l row) k)→I q X→VSt.H (sE r) N (s5 s) none (zrJ r h b l N s G ps asg body row (I (q+1)) J) (.code asg [] G1 (z6u h b l (.loop .ready none G N ps asg body) row.length (z7q row) g X))) :
  VC (sE r) (s5 s) 150 [.yld 0,.p (.fp [z0M b l] 0),.p (.fp (eHp h) 0)] ((0,.loop .ready none G N ps asg body)::X) (fun _ L'=>zrq h b l N G ps asg body (I (z7s h l).length) J L'):=by
 refine z7o (fn:=Tryz.f150) za (zD rfl) (by kernel_rfl) rfl rfl ?_
 refine zg za false [3] 200 rfl trivial ?_
 refine zfB 1 (hX 1 (by decide)) rfl rfl rfl rfl rfl ?_
 refine zg za false [9] 200 rfl AllP.n ?_
 refine zjI 5 za (hX 5 (by decide)) rfl rfl rfl rfl rfl rfl rfl (yu _) (by omega) ?_
 refine z6O 2 za (hX 2 (by decide)) rfl rfl rfl rfl ?_
 refine zg za false [5] 200 rfl AllP.n ?_
 refine z6O 3 za (hX 3 (by decide)) rfl rfl rfl rfl ?_
 refine zg za false [6] 200 rfl AllP.n ?_
 refine z6O 4 za (hX 4 (by decide)) rfl rfl rfl rfl ?_
 refine zg za false [12] 200 rfl AllP.n ?_
 refine zf (Vw.perm (L':=z6u h b l (.loop .ready none G N ps asg body) 0 0 (fun _=>default) X) fun i=>?_) ?_
 ·match i with
  | 0=>rfl
  | 1=>rfl
  | 2=>rfl
  | 3=>rfl
  | 4=>rfl
  | 5=>rfl
  | n+6=>rfl
 refine VSt.ci (s5 s) rfl rfl rfl rfl rfl rfl rfl (zbf _) (step_ok hl hw s (z7s h l) I J hk hround l.length [] 0 (fun _=>default) X rfl (fun i hi=>by cases hi) (fun k _=>by rw [Nat.zero_add];rfl) (fun k hk=>absurd hk (Nat.not_lt_zero k)) hI) (fun a L' ha=>?_)
 rcases ha with ⟨rfl,g1,X1,rfl,_,hI1⟩ | ⟨rfl,g1,X1,e,G3,he,rfl,hJ1⟩
 ·refine zg za false [] 200 rfl AllP.n ?_
  refine ⟨rfl,_,rfl,.inl ⟨g1,X1,rfl,?_⟩⟩
  rw [Nat.zero_add] at hI1;exact hI1
 ·refine zg za false [] 200 rfl AllP.n ?_
  exact ⟨rfl,_,rfl,.inr ⟨g1,X1,e,G3,he,rfl,hJ1⟩⟩
def okT (h:Hp) (l:List Sht) (k:Nat):Bool:=toS h (zi l k).id==0||(decide (k+1<l.length)&&(zi l (k+1)).id==toS h (zi l k).id)
def zbt (h:Hp) (l:List Sht):Bool:=zqk (okT h l) l.length
set_option maxHeartbeats 4000000 in
theorem zfL {h:Hp} {b:Bool} {l:List Sht} (hl:l.length≤1000) (hw:h.sw.length<9223372036854775808):VP (sE r) 120 [.agg ((eHp h).map .p),.p (z0M b l)] (bv (zbt h l)):=by
 refine VP.of (fn:=Tryz.f120) za (zD rfl) (by kernel_rfl) rfl rfl rfl ?_
 refine VSt.go za false [] 200 rfl AllP.n ?_
 refine z02 (z00 0 (eHp h) rfl rfl) ?_
 refine z0R za l.length (by omega) [1,2,9] (fun _=>[]) (fun _=>[]) (fun k=>∀ i,i<k→okT h l i=true) rfl rfl rfl (fun _=>rfl) rfl rfl z0X trivial (fun i hi=>absurd hi (Nat.not_lt_zero i)) (fun k hk hp=>?_) (fun hp=>?_)
 ·refine VSt.go za false [] 200 rfl (AllP.c ‹_› (AllP.c rfl AllP.n)) ?_
  refine VSt.pc rfl rfl rfl rfl rfl rfl rfl rfl ((zah (h:=h) (id:=(zi l k).id) hw)) ?_
  refine VSt.go za false [] 200 rfl AllP.n ?_
  refine zb 25 rfl (fun h1=>?_) (fun h1=>?_)
  ·have h1:(!(toS h (zi l k).id==0))=true:=h1
   have h1':(toS h (zi l k).id==0)=false:=by simpa using h1
   refine VSt.go za false [30] 200 rfl (AllP.c (by unfold inR;(try simp only [yl]);omega) AllP.n) ?_
   refine z0a 27 (nv (k+1)) rfl (AImp.refl _) ?_
   refine VSt.go za false [] 200 rfl AllP.n ?_
   refine zb 31 rfl (fun h2=>?_) (fun h2=>?_)
   ·have h2:(Int.ofNat (k+1)==Int.ofNat l.length)=true:=h2
    have e:k+1=l.length:=by
     have:=eq_of_beq h2
     simp only [yl] at this
     omega
    refine VSt.go za false [] 200 rfl AllP.n ?_
    refine EndsP.mk rfl rfl rfl ?_
    show bv false=bv _
    rw [show zbt h l=false from zbg hk (by unfold okT;rw [h1',decide_eq_false (by omega)];rfl)]
   ·have h2:(Int.ofNat (k+1)==Int.ofNat l.length)=false:=h2
    have e:k+1<l.length:=by
     have h3:k+1≠l.length:=fun g=>by rw [g,beq_self_eq_true] at h2;cases h2
     omega
    refine VSt.go za false [35] 200 rfl (AllP.c (by unfold inR;(try simp only [yl]);omega) AllP.n) ?_
    refine z0a 34 (nv (k+1)) rfl (AImp.refl _) ?_
    refine VSt.go za false [] 200 rfl (AllP.c ‹_› (AllP.c rfl AllP.n)) ?_
    refine VSt.cond rfl (fun h3=>?_) (fun h3=>?_)
    ·have h3:(!((zi l (k+1)).id==toS h (zi l k).id))=true:=h3
     refine VSt.go za false [] 200 rfl AllP.n ?_
     refine EndsP.mk rfl rfl rfl ?_
     show bv false=bv _
     rw [show zbt h l=false from zbg hk (by unfold okT;rw [h1',show ((zi l (k+1)).id==toS h (zi l k).id)=false by simpa using h3,Bool.and_false];rfl)]
    ·have h3:(!((zi l (k+1)).id==toS h (zi l k).id))=false:=h3
     refine VSt.go za false [] 200 rfl AllP.n ?_
     exact ⟨by (refine Vw.drop (by repeat (first | exact zw | refine zo rfl rfl rfl ?_ | refine z0k rfl ‹_› (z08 _ ‹_›) ?_))),z16 hp (by unfold okT;rw [show ((zi l (k+1)).id==toS h (zi l k).id)=true by simpa using h3,decide_eq_true e];simp)⟩
  ·have h1:(!(toS h (zi l k).id==0))=false:=h1
   refine VSt.go za false [] 200 rfl AllP.n ?_
   exact ⟨by (refine Vw.drop (by repeat (first | exact zw | refine zo rfl rfl rfl ?_ | refine z0k rfl ‹_› (z08 _ ‹_›) ?_))),z16 hp (by unfold okT;rw [show (toS h (zi l k).id==0)=true by simpa using h1];rfl)⟩
 ·refine VSt.go za false [] 200 rfl AllP.n ?_
  refine EndsP.mk rfl rfl rfl ?_
  show bv true=bv _
  rw [show zbt h l=true from allB_iff.2 hp]
structure BitS (s:Sht):Prop where
 h1:s.holes=Int.ofNat s.holes.toNat
 h2:s.holes.toNat≤4095
 u1:s.unsure=Int.ofNat s.unsure.toNat
 u2:s.unsure.toNat≤4095
theorem OkS.bit {s:Sht} (h:OkS s):BitS s:=by
 have a:=wth_iff.1 h.holes
 have b:=wth_iff.1 h.unsure
 refine ⟨?_,?_,?_,?_⟩
 ·simp only [yl];omega
 ·omega
 ·simp only [yl];omega
 ·omega
def z7J (s:Sht) (w:Nat):Bool:=s.holes.toNat.testBit w
def zgI (s:Sht) (w:Nat):Bool:=(s.holes.toNat ||| s.unsure.toNat).testBit w
def spF (l:List Sht) (w:Nat):Nat→Int
 | 0=> -1
 | k+1=>bif z7J (zi l k) w then (bif decide (spF l w k<0) then Int.ofNat k else spF l w k) else spF l w k
def spL (l:List Sht) (w:Nat):Nat→Int
 | 0=> -1
 | k+1=>bif z7J (zi l k) w then Int.ofNat k else spL l w k
set_option maxHeartbeats 4000000 in
theorem zmL {b:Bool} {l:List Sht} {w:Nat} (hl:l.length≤1000000) (hw:w<64) (hb:∀ k,k<l.length→BitS (zi l k)):VP (sE r) 105 [.p (z0M b l),nv w] (.agg [iv (spF l w l.length),iv (spL l w l.length)]):=by
 refine VP.of (fn:=Tryz.f105) za (zD rfl) (by kernel_rfl) rfl rfl rfl ?_
 refine VSt.go za false [] 200 rfl AllP.n ?_
 refine z0R za l.length (by omega) [1,4,5,9] (fun _=>[]) (fun k=>[(1,.cells [iv (spF l w k),iv (spL l w k)] 32),(0,.cells [iv 0,iv 0] 32)]) (fun _=>True) rfl rfl rfl (fun _=>rfl) rfl rfl z0X (LImp.refl _) trivial (fun k hk _=>?_) (fun _=>?_)
 ·have hB:=hb k hk
  have hh:=hB.h2
  have hm:(zi l k).holes.toNat<9223372036854775808:=by omega
  refine VSt.go za false [] 200 rfl (AllP.c ‹_› (AllP.c rfl AllP.n)) ?_
  refine z0a 17 (iv (Int.ofNat (zi l k).holes.toNat)) rfl (z04 (congrArg iv hB.h1)) ?_
  refine VSt.pc rfl rfl rfl rfl rfl rfl rfl rfl ((ziF (m:=(zi l k).holes.toNat) (k:=w) hw hm)) ?_
  refine VSt.go za false [] 200 rfl AllP.n ?_
  refine VSt.cond rfl (fun h1=>?_) (fun h1=>?_)
  ·have h1:z7J (zi l k) w=false:=by simpa using (show (!z7J (zi l k) w)=true from h1)
   have e1:spF l w (k+1)=spF l w k:=by show (bif z7J (zi l k) w then _ else _)=_;rw [h1];rfl
   have e2:spL l w (k+1)=spL l w k:=by show (bif z7J (zi l k) w then _ else _)=_;rw [h1];rfl
   refine VSt.go za false [] 200 rfl AllP.n ?_
   refine ⟨?_,trivial⟩
   dsimp only
   rw [e1,e2]
   refine z0F (ps:=[(1,1),(0,0)]) ⟨rfl,rfl,(by repeat (first | exact zw | refine zo rfl rfl rfl ?_)),_,rfl,(⟨rfl,BImp.refl _,rfl,BImp.refl _,trivial⟩)⟩
  ·have h1:z7J (zi l k) w=true:=by simpa using (show (!z7J (zi l k) w)=false from h1)
   have e2:spL l w (k+1)=Int.ofNat k:=by show (bif z7J (zi l k) w then _ else _)=_;rw [h1];rfl
   refine VSt.go za false [] 200 rfl AllP.n ?_
   refine VSt.cond rfl (fun h2=>?_) (fun h2=>?_)
   ·have h2:decide (spF l w k<0)=true:=h2
    have e1:spF l w (k+1)=Int.ofNat k:=by show (bif z7J (zi l k) w then (bif decide (spF l w k<0) then _ else _) else _)=_;rw [h1,h2];rfl
    refine VSt.go za false [] 200 rfl AllP.n ?_
    refine ⟨?_,trivial⟩
    dsimp only
    rw [e1,e2]
    refine z0F (ps:=[(1,1),(0,0)]) ⟨rfl,rfl,(by repeat (first | exact zw | refine zo rfl rfl rfl ?_)),_,rfl,(⟨rfl,BImp.refl _,rfl,BImp.refl _,trivial⟩)⟩
   ·have h2:decide (spF l w k<0)=false:=h2
    have e1:spF l w (k+1)=spF l w k:=by show (bif z7J (zi l k) w then (bif decide (spF l w k<0) then _ else _) else _)=_;rw [h1,h2];rfl
    refine VSt.go za false [] 200 rfl AllP.n ?_
    refine ⟨?_,trivial⟩
    dsimp only
    rw [e1,e2]
    refine z0F (ps:=[(1,1),(0,0)]) ⟨rfl,rfl,(by repeat (first | exact zw | refine zo rfl rfl rfl ?_)),_,rfl,(⟨rfl,BImp.refl _,rfl,BImp.refl _,trivial⟩)⟩
 ·refine VSt.go za false [] 200 rfl AllP.n ?_
  exact EndsP.mk rfl rfl rfl rfl
theorem zmM (l:List Sht) (w:Nat):∀ k,(spF l w k = -1∧spL l w k = -1∧∀ i,i<k→z7J (zi l i) w=false) ∨
  ∃ a b,spF l w k=Int.ofNat a∧spL l w k=Int.ofNat b∧a≤b∧b<k∧z7J (zi l a) w=true∧z7J (zi l b) w=true∧(∀ i,i<a→z7J (zi l i) w=false)∧∀ i,b<i→i<k→z7J (zi l i) w=false
 | 0=>.inl ⟨rfl,rfl,none0⟩
 | k+1=>by
  have ih:=zmM l w k
  have e1:spF l w (k+1)=bif z7J (zi l k) w then (bif decide (spF l w k<0) then Int.ofNat k else spF l w k) else spF l w k:=rfl
  have e2:spL l w (k+1)=bif z7J (zi l k) w then Int.ofNat k else spL l w k:=rfl
  cases hh:z7J (zi l k) w with
  | false =>
   rw [hh] at e1 e2
   rcases ih with ⟨h1,h2,h3⟩ | ⟨a,b,h1,h2,h3,h4,h5,h6,h7,h8⟩
   ·exact .inl ⟨e1.trans h1,e2.trans h2,z16 h3 hh⟩
   ·refine .inr ⟨a,b,e1.trans h1,e2.trans h2,h3,by omega,h5,h6,h7,fun i hi hk=>?_⟩
    by_cases c:i=k
    ·rw [c];exact hh
    ·exact h8 i hi (by omega)
  | true =>
   rw [hh] at e1 e2
   rcases ih with ⟨h1,h2,h3⟩ | ⟨a,b,h1,h2,h3,h4,h5,h6,h7,h8⟩
   ·rw [h1] at e1
    exact .inr ⟨k,k,e1,e2,ym _,Nat.lt_succ_self _,hh,hh,h3,fun i hi hk=>by omega⟩
   ·rw [h1,decide_eq_false (show ¬ Int.ofNat a<0 by simp only [yl];omega)] at e1
    exact .inr ⟨a,k,e1,e2,by omega,Nat.lt_succ_self _,h5,hh,h7,fun i hi hk=>by omega⟩
def zgg (l:List Sht) (w a:Nat):Nat→Bool
 | 0=>false
 | j+1=>zgg l w a j || !zgI (zi l (a+j)) w
def brB (l:List Sht) (w:Nat):Bool:=decide (0≤spF l w l.length)&&zgg l w (spF l w l.length).toNat ((spL l w l.length).toNat+1 - (spF l w l.length).toNat)
def y8 (l:List Sht):Nat→Nat
 | 0=>0
 | w+1=>bif brB l w then y8 l w ||| 1 <<< w else y8 l w
theorem zjm (l:List Sht):∀ w,y8 l w<2 ^ w
 | 0=>by show 0<2 ^ 0;decide
 | w+1=>by
  have ih:=zjm l w
  have h:2 ^ w<2 ^ (w+1):=Nat.pow_lt_pow_right (by decide) (Nat.lt_succ_self w)
  show (bif brB l w then y8 l w ||| 1 <<< w else y8 l w)<_
  cases brB l w with
  | true=>exact Nat.or_lt_two_pow (Nat.lt_trans ih h) (by rw [Nat.one_shiftLeft];exact h)
  | false=>exact Nat.lt_trans ih h
set_option maxHeartbeats 8000000 in
theorem zjl {b:Bool} {l:List Sht} (hl:l.length≤1000000) (hb:∀ k,k<l.length→BitS (zi l k)):VP (sE r) 121 [.p (z0M b l)] (iv (Int.ofNat (y8 l 12))):=by
 refine VP.of (fn:=Tryz.f121) za (zD rfl) (by kernel_rfl) rfl rfl rfl ?_
 refine VSt.go za false [] 200 rfl AllP.n ?_
 refine z0G (ti:=8) 12 [0] (fun w=>[(3,iv (Int.ofNat (y8 l w)))]) (fun _=>[]) (fun _=>True) rfl rfl (z2s rfl (AImp.refl _) z0X) trivial trivial (fun w hw _=>?_)
 refine VSt.go za false [] 200 rfl AllP.n ?_
 refine VSt.cond rfl (fun g=>?_) (fun g=>?_)
 ·have g:=nlt (n:=12) g
  refine VSt.go za false [] 200 rfl AllP.n ?_
  refine VSt.pc rfl rfl rfl rfl rfl rfl rfl rfl ((zmL (w:=w) hl (by omega) hb)) ?_
  refine VSt.go za false [] 200 rfl AllP.n ?_
  refine VSt.cond rfl (fun h1=>?_) (fun h1=>?_)
  ·have h1:decide (spF l w l.length<0)=true:=h1
   have e1:y8 l (w+1)=y8 l w:=by
    have h2:=of_decide_eq_true h1
    show (bif brB l w then _ else _)=_
    rw [show brB l w=false by unfold brB;rw [decide_eq_false (by omega)];rfl];rfl
   refine VSt.go za false [] 200 rfl (AllP.c (by unfold inR;(try simp only [yl]);omega) AllP.n) ?_
   refine ⟨g,?_,trivial⟩
   dsimp only
   rw [e1]
   (refine Vw.drop (by repeat (first | exact zw | refine zo rfl rfl rfl ?_ | refine z0k rfl ‹_› (z08 _ ‹_›) ?_)))
  have h1:decide (spF l w l.length<0)=false:=h1
  have h2:=of_decide_eq_false h1
  rcases zmM l w l.length with ⟨h3,_⟩ | ⟨a,c,h3,h4,h5,h6,h7,h8,h9,h10⟩
  ·exact absurd h3 (by omega)
  have hlt:y8 l w<9223372036854775808:=yo (zjm l w) (yn (Nat.pow_le_pow_right (by decide) (show w≤12 by omega)) (by decide))
  have e1:y8 l (w+1)=bif zgg l w a (c+1 - a) then y8 l w ||| 1 <<< w else y8 l w:=by
   show (bif brB l w then _ else _)=_
   unfold brB
   rw [h3,h4,decide_eq_true (show 0≤Int.ofNat a by simp only [yl];omega)]
   rfl
  refine VSt.go za false [20] 200 rfl AllP.n ?_
  refine z0a 19 (nv a) rfl (z2y h3) ?_
  refine VSt.go za false [22] 200 rfl AllP.n ?_
  refine z0a 21 (nv c) rfl (z2y h4) ?_
  refine VSt.go za false [23] 200 rfl (AllP.c (by unfold inR;(try simp only [yl]);omega) AllP.n) ?_
  refine z0a 22 (nv (c+1)) rfl (AImp.refl _) ?_
  refine VSt.go za false [] 200 rfl (AllP.c (by omega) (AllP.c ‹_› (AllP.c (fun _ _=>rfl) AllP.n))) ?_
  refine z02 (Vw.kp [0,3,4,8,23,24,25] [] rfl) ?_
  refine z0R za (c+1 - a) (by omega) [0,4,8,23] (fun j=>[(3,iv (Int.ofNat (bif zgg l w a j then y8 l w ||| 1 <<< w else y8 l w)))]) (fun _=>[]) (fun _=>True) rfl rfl rfl (fun _=>rfl) rfl rfl (z2s rfl (AImp.refl _) z0X) trivial trivial (fun j hj _=>?_) (fun _=>?_)
  ·have hB:=hb (a+j) (by omega)
   have q1:=hB.h2
   have q2:=hB.u2
   have q3:(zi l (a+j)).holes.toNat<9223372036854775808:=by omega
   have q4:(zi l (a+j)).unsure.toNat<9223372036854775808:=by omega
   have q5:(zi l (a+j)).holes.toNat ||| (zi l (a+j)).unsure.toNat<9223372036854775808:=yo (Nat.or_lt_two_pow (n:=12) (by omega) (by omega)) (by decide)
   have q6:y8 l w ||| 1 <<< w<9223372036854775808:=yo (Nat.or_lt_two_pow (n:=13) (yo (zjm l w) (Nat.pow_le_pow_right (by decide) (by omega))) (by rw [Nat.one_shiftLeft];exact Nat.pow_lt_pow_right (by decide) (by omega))) (by decide)
   have q7:(bif zgg l w a j then y8 l w ||| 1 <<< w else y8 l w)<9223372036854775808:=by cases zgg l w a j <;> assumption
   have e2:zgg l w a (j+1)=(zgg l w a j || !zgI (zi l (a+j)) w):=rfl
   refine VSt.go za false [31] 200 rfl (AllP.c ‹_› (AllP.c rfl AllP.n)) ?_
   refine z0a 30 (iv (Int.ofNat (zi l (a+j)).holes.toNat)) rfl (z04 (congrArg iv hB.h1)) ?_
   refine VSt.go za false [33] 200 rfl AllP.n ?_
   refine z0a 32 (iv (Int.ofNat (zi l (a+j)).unsure.toNat)) rfl (z04 (congrArg iv hB.u1)) ?_
   refine VSt.go za false [] 200 rfl (AllP.c ‹_› (AllP.c ‹_› AllP.n)) ?_
   refine VSt.pc rfl rfl rfl rfl rfl rfl rfl rfl ((ziF (m:=(zi l (a+j)).holes.toNat ||| (zi l (a+j)).unsure.toNat) (k:=w) (by omega) q5)) ?_
   refine VSt.go za false [] 200 rfl AllP.n ?_
   refine VSt.cond rfl (fun h11=>?_) (fun h11=>?_)
   ·have h11:(!zgI (zi l (a+j)) w)=true:=h11
    have e3:(bif zgg l w a j then y8 l w ||| 1 <<< w else y8 l w) ||| 1 <<< w=bif zgg l w a (j+1) then y8 l w ||| 1 <<< w else y8 l w:=by
     rw [e2,h11,Bool.or_true]
     cases zgg l w a j with
     | true=>show y8 l w ||| 1 <<< w ||| 1 <<< w=y8 l w ||| 1 <<< w;rw [Nat.or_assoc,Nat.or_self]
     | false=>rfl
    refine VSt.go za false [] 200 rfl AllP.n ?_
    refine VSt.pc rfl rfl rfl rfl rfl rfl rfl rfl ((zgN (k:=w) (by omega) q7)) ?_
    refine VSt.go za false [] 200 rfl AllP.n ?_
    refine ⟨?_,trivial⟩
    dsimp only
    rw [←e3]
    (refine Vw.drop (by repeat (first | exact zw | refine zo rfl rfl rfl ?_ | refine z0k rfl ‹_› (z08 _ ‹_›) ?_)))
   ·have h11:(!zgI (zi l (a+j)) w)=false:=h11
    refine VSt.go za false [] 200 rfl AllP.n ?_
    refine ⟨?_,trivial⟩
    dsimp only
    rw [e2,h11,Bool.or_false]
    (refine Vw.drop (by repeat (first | exact zw | refine zo rfl rfl rfl ?_ | refine z0k rfl ‹_› (z08 _ ‹_›) ?_)))
  ·refine VSt.go za false [] 200 rfl (AllP.c (by unfold inR;(try simp only [yl]);omega) AllP.n) ?_
   refine ⟨g,?_,trivial⟩
   dsimp only
   rw [e1]
   (refine Vw.drop (by repeat (first | exact zw | refine zo rfl rfl rfl ?_ | refine z0k rfl ‹_› (z08 _ ‹_›) ?_)))
 ·have g:w=12:=by have:=nge (n:=12) g;omega
  subst g
  refine VSt.go za false [] 200 rfl AllP.n ?_
  exact EndsP.mk rfl rfl rfl rfl
theorem z5H {h:Hp} {p:Int}:VP (sE r) 68 [.agg ((eHp h).map .p),iv p] (.fn 118 [] [.p (.fp (eHp h) 0),.p (.fp [.int .i64 p] 0)]):=by
 refine VP.of (fn:=Tryz.f68) za (zD rfl) (by kernel_rfl) rfl rfl rfl ?_
 refine VSt.go za false [4] 200 rfl AllP.n ?_
 refine zf (z00 0 (eHp h) rfl rfl) ?_
 refine zf (z00 1 [.int .i64 p] rfl rfl) ?_
 refine VSt.go za false [] 200 rfl AllP.n ?_
 exact EndsP.mk rfl rfl rfl rfl
def zck (h:Hp) (l:List Sht) (row:List Nat):Bool:=zbt h (zQ l row)&&(y8 (zQ l row) 12==0)
def zu (h:Hp) (p:Int):List (List Nat):=(z7s h (zJ h.st p)).filter (zck h (zJ h.st p))
def zkt (h:Hp) (p:Int) (lpi lpo:VB) (k u:Nat) (g:Nat→Sht) (X:VS):VS:=z6u h h.stB (zJ h.st p) lpi k u g ((11,.cells [.yld 10] 141)::(10,lpo)::X)
abbrev s12 (s:List Nat):List Nat:=s5 (11::10::s)
def zs7 (r:Rm) (h:Hp) (p:Int) (N:Nat) (s:List Nat) (G:VK) (ps:List Tmp) (asg body:Code) (lpi:VB) (row:List Nat) (g:Nat→Sht) (I:VS→Prop) (J:LExit→VS→Prop):zK:=fun e F2 L2 =>
 (e = .normal∧∃ F0 X,Vw (sE r) (s12 s) F2 L2 F0 (zkt h p lpi (.loop .busy none G N ps asg body) row.length (z7q row) g X)∧I X) ∨
 (zk e=false∧∃ F0 X G3,Vw (sE r) (s12 s) F2 L2 F0 (zkt h p lpi (.loop .busy none G3 N ps asg body) row.length (z7q row) g X)∧J e X)
def zs8 (r:Rm) (h:Hp) (p:Int) (N:Nat) (s:List Nat) (G:VK) (ps:List Tmp) (asg body:Code) (lpi:VB) (row:List Nat) (g:Nat→Sht) (I:VS→Prop) (J:LExit→VS→Prop):zK:=fun e F1 L1 =>
 e = .normal∧∃ G2,bk L1 10=some (.loop .ready none G2 N ps asg body)∧VSt.H (sE r) N (s12 s) none (zs7 r h p N s G ps asg body lpi row g I J) (.code body [] F1 (up L1 10 (.loop .busy none G2 N ps asg body)))
def zrr (h:Hp) (p:Int) (N:Nat) (G:VK) (ps:List Tmp) (asg body:Code) (I:VS→Prop) (J:LExit→VS→Prop) (L':VS):Prop :=
 (∃ lp g X,L'=zkt h p lp (.loop .ready none G N ps asg body) 0 0 g X∧I X)∨(∃ lp g X e G3,zk e=false∧L'=zkt h p lp (.loop .done (codeOf e) G3 N ps asg body) 0 0 g X∧J e X)
theorem z3G {h:Hp} (hO:OkH h) (p:Int):(zJ h.st p).length≤7:=by
 cases hb:zJ h.st p with
 | nil=>exact yu _
 | cons x t =>
  have hx:x∈zJ h.st p:=by rw [hb];exact List.mem_cons_self ..
  obtain ⟨h1,h2⟩:=List.mem_filter.1 hx
  obtain ⟨k,hk,e⟩:=z0y (d:=default) h1
  have h3:=hO.few k hk
  have e2:zi h.st k=x:=e
  rw [e2,eq_of_beq h2] at h3
  rw [←hb];exact h3
theorem zn0 {h:Hp} (hO:OkH h) {p:Int} {row:List Nat} (hr:∀ i∈row,i<(zJ h.st p).length):∀ k,k<(zQ (zJ h.st p) row).length→BitS (zi (zQ (zJ h.st p) row) k):=by
 intro k hk
 have h1:zi (zQ (zJ h.st p) row) k∈zQ (zJ h.st p) row:=z09 hk
 obtain ⟨i,hi,e⟩:=List.mem_map.1 (show zi (zQ (zJ h.st p) row) k∈row.reverse.map fun i=>zi (zJ h.st p) i from h1)
 rw [←e]
 have h2:zi (zJ h.st p) i∈zJ h.st p:=z09 (hr i (List.mem_reverse.1 hi))
 obtain ⟨h3,_⟩:=List.mem_filter.1 h2
 obtain ⟨q,hq,e2⟩:=z0y (d:=default) h3
 have e3:zi h.st q=zi (zJ h.st p) i:=e2
 rw [←e3];exact (hO.ok q hq).bit
theorem ziN {h:Hp} {l:List Sht}:∀ f {row0 row:List Nat},row∈z4O h l f row0→(∀ i∈row0,i<l.length)→∀ i∈row,i<l.length
 | 0,row0,row,hm,h0=>by
  have:row=row0:=List.mem_singleton.1 hm
  rw [this];exact h0
 | f+1,row0,row,hm,h0=>by
  obtain ⟨i,hi,hx⟩:=List.mem_flatMap.1 (show row∈(List.range l.length).flatMap fun i=>bif okR h l row0 i then z4O h l f (i::row0) else [] from hm)
  cases hk:okR h l row0 i with
  | false=>rw [hk] at hx;cases hx
  | true =>
   rw [hk] at hx
   refine ziN f hx fun k hk=>?_
   rcases List.mem_cons.1 hk with rfl | hk
   ·exact List.mem_range.1 hi
   ·exact h0 k hk
theorem zeC {h:Hp} {l:List Sht} {row:List Nat} (hm:row∈z7s h l):∀ i∈row,i<l.length:=ziN _ hm fun i hi=>by cases hi
theorem zj0 {α : Type} {R:List α} {g : α → Bool} {q:Nat} {x : α} (h:R[q]? = some x):((R.take (q+1)).filter g).length=((R.take q).filter g).length+(bif g x then 1 else 0):=by
 rw [List.take_add_one,h,List.filter_append,List.length_append]
 cases hg:g x <;> simp [hg]
theorem znS {α : Type} {R:List α} {g : α → Bool} {q:Nat} {x : α} (h:R[q]? = some x) (hg:g x=true):(R.filter g)[((R.take q).filter g).length]? = some x:=by
 have hq:q<R.length:=by
  rw [List.getElem?_eq_some_iff] at h;exact h.1
 have e:R=R.take q++x::R.drop (q+1):=by
  have h1:R[q]=x:=by rw [List.getElem?_eq_getElem hq] at h;exact Option.some.inj h
  rw [←h1,List.getElem_cons_drop,List.take_append_drop]
 have e2:R.filter g=(R.take q).filter g++x::(R.drop (q+1)).filter g:=by
  conv=>lhs;rw [e]
  rw [List.filter_append,List.filter_cons_of_pos hg]
 rw [e2,List.getElem?_append_right (ym _),Nat.sub_self];rfl
theorem zdw {n:Nat} {g:Nat→Sht} {rl:List Sht} (hn:n=rl.length) (hg:∀ k,k<n→g k=zi rl k):AImp (.p (.lst 74 false n fun q=>zX (g q))) (.p (z0M false rl)):=by
 subst hn
 exact AImp.lst fun k hk=>by rw [hg k hk];rfl
theorem z3a (m:Nat):(Int.ofNat m==0)=(m==0):=by
 rw [Bool.eq_iff_iff,beq_iff_eq,beq_iff_eq]
 simp only [yl];omega
theorem zrn (s:List Nat):((10::s).all (inB (s12 s)))=true:=by
 rw [List.all_eq_true]
 intro x hx
 unfold inB
 rw [List.any_eq_true]
 exact ⟨x,by simp only [List.mem_cons];simp only [List.mem_cons] at hx;rcases hx with h | h <;> simp [h],Nat.beq_refl x⟩
set_option maxHeartbeats 8000000 in
theorem z4t {h:Hp} {p:Int} (hz:SzH h) (hO:OkH h) {N:Nat} {G G1:VK} {ps:List Tmp} {asg body:Code} {X:VS} (s:List Nat) (I:Nat→VS→Prop) (J:LExit→VS→Prop) (hX:∀ i,i<12→bk X i=none) (hI:I 0 X)
  (hk:z7x N ps [.sl 5 6 0 (zJ h.st p).length (zJ h.st p).length 1] G=some G1)
  (hround:∀ q row g lpi X,(zu h p)[q]? = some row→row.length=(zJ h.st p).length→(∀ k,k<row.length→g k=zi (zQ (zJ h.st p) row) k)→I q X→VSt.H (sE r) N (s12 s) none (zs8 r h p N s G ps asg body lpi row g (I (q+1)) J) (.code asg [] G1 (zkt h p lpi (.loop .ready none G N ps asg body) row.length (z7q row) g X))) :
  VC (sE r) (10::s) 118 [.yld 10,.p (.fp (eHp h) 0),.p (.fp [.int .i64 p] 0)] ((10,.loop .ready none G N ps asg body)::X) (fun _ L'=>zrr h p N G ps asg body (I (zu h p).length) J L'):=by
 have hb7:=z3G hO p
 have hsw:=hO.sw
 have hst:=hO.st
 refine z7o (fn:=Tryz.f118) za (zD rfl) (by kernel_rfl) rfl rfl ?_
 refine zg za false [3] 200 rfl trivial ?_
 refine zfB 11 (hX 11 (by decide)) rfl rfl rfl rfl rfl ?_
 refine zg za false [] 200 rfl trivial ?_
 refine z2U rfl rfl rfl rfl rfl rfl rfl rfl ((zjk (h:=h) (p:=p) hz (by omega))) ?_
 refine zg za false [] 200 rfl trivial ?_
 refine z2U rfl rfl rfl rfl rfl rfl rfl rfl ((rows_ok (h:=h) (b:=h.stB) (l:=zJ h.st p))) ?_
 refine zg za false [] 200 rfl trivial ?_
 refine z14 0 (s12 s) (hX 0 (by decide)) rfl rfl rfl (zrn s)
  (zkk (by omega) (by omega) (11::10::s) (fun q X'=>∃ X0,X'=(11,.cells [.yld 10] 141)::(10,.loop .ready none G N ps asg body)::X0∧I (((z7s h (zJ h.st p)).take q).filter (zck h (zJ h.st p))).length X0)
   (fun e X'=>e = .ret∧∃ X0 e2 G3,X'=(11,.cells [.yld 10] 141)::(10,.loop .done (codeOf e2) G3 N ps asg body)::X0∧zk e2=false∧J e2 X0)
   (fun i hi=>by rw [zA,if_neg (by omega),zA,if_neg (by omega)];exact hX i (by omega)) ⟨X,rfl,hI⟩ rfl ?_) (fun a L' ha=>?_)
 ·rintro q row g X' hq hn hg ⟨X0,rfl,hI0⟩
  unfold z6u
  refine zg za false [] 200 rfl AllP.n ?_
  refine ⟨rfl,_,rfl,?_⟩
  refine zg za false [] 200 rfl AllP.n ?_
  have hrl:(zJ h.st p).length=(zQ (zJ h.st p) row).length:=by rw [z0x,hn]
  have hg2:∀ k,k<(zJ h.st p).length→g k=zi (zQ (zJ h.st p) row) k:=fun k hk=>hg k (by omega)
  have hmem:=List.mem_of_getElem? hq
  have hbit:=zn0 hO (zeC hmem)
  have hfs:=zj0 (g:=zck h (zJ h.st p)) hq
  have hgd:zck h (zJ h.st p) row=(zbt h (zQ (zJ h.st p) row)&&(y8 (zQ (zJ h.st p) row) 12==0)):=rfl
  refine z6d (F0:=[(11,.agg ((eHp h).map .p)),(12,.p (.lst 74 false (zJ h.st p).length fun q=>zX (g q)))]) (ze8 (i:=5) rfl (zpr rfl rfl (zik rfl (ym _) (ym _) zaI))) rfl rfl rfl rfl rfl rfl rfl
   (VP.imp (zfL (h:=h) (b:=false) (l:=zQ (zJ h.st p) row) (by omega) (by omega)) ⟨AImp.refl _,zdw hrl hg2,trivial⟩) rfl ?_
  refine zg za false [] 200 rfl AllP.n ?_
  refine zb 14 rfl (fun h1=>?_) (fun h1=>?_)
  rotate_left
  ·have h1:zbt h (zQ (zJ h.st p) row)=false:=h1
   refine zg za false [] 200 rfl AllP.n ?_
   refine .inl ⟨rfl,[],g,_,Vw.sub' (z9h z0v),hg,X0,rfl,?_⟩
   rw [hfs,hgd,h1];exact hI0
  have h1:zbt h (zQ (zJ h.st p) row)=true:=h1
  refine zg za false [] 200 rfl AllP.n ?_
  refine z6d (F0:=[(15,.p (.lst 74 false (zJ h.st p).length fun q=>zX (g q)))]) (ze8 (i:=5) rfl (zik rfl (ym _) (ym _) zaI)) rfl rfl rfl rfl rfl rfl rfl
   (VP.imp (zjl (b:=false) (l:=zQ (zJ h.st p) row) (by omega) hbit) ⟨zdw hrl hg2,trivial⟩) rfl ?_
  refine zg za false [] 200 rfl AllP.n ?_
  refine z0a 19 (bv (y8 (zQ (zJ h.st p) row) 12==0)) rfl (z04 (by rw [z3a])) ?_
  refine zb 19 rfl (fun h2=>?_) (fun h2=>?_)
  rotate_left
  ·have h2:(y8 (zQ (zJ h.st p) row) 12==0)=false:=h2
   refine zg za false [] 200 rfl AllP.n ?_
   refine .inl ⟨rfl,[],g,_,Vw.sub' (z9h z0v),hg,X0,rfl,?_⟩
   rw [hfs,hgd,h1,h2];exact hI0
  have h2:(y8 (zQ (zJ h.st p) row) 12==0)=true:=h2
  have hgt:zck h (zJ h.st p) row=true:=by rw [hgd,h1,h2];rfl
  refine zg za false [] 200 rfl AllP.n ?_
  refine VSt.yieldN (s12 s) rfl rfl rfl rfl rfl rfl rfl hk rfl rfl (zbf _) (VW.mono (hround _ row g _ X0 (znS hq hgt) hn hg hI0) ?_)
  refine fun e F1 L1' h=>⟨h.1,h.2.elim fun G2 h2=>⟨G2,h2.1,VW.mono h2.2 ?_⟩⟩
  refine fun e F2 L2 h=>?_
  rcases h with ⟨he,F0,X1,hv,hI1⟩ | ⟨he,F0,X1,G3,hv,hJ1⟩
  ·subst he
   refine ⟨F0,_,none,G,hv,rfl,?_⟩
   refine zg za false [] 200 rfl AllP.n ?_
   refine .inl ⟨rfl,[],g,_,Vw.sub' (z9h z0v),hg,X1,rfl,?_⟩
   rw [hfs,hgt];exact hI1
  ·refine ⟨F0,_,none,G3,hv,rfl,?_⟩
   rw [he]
   refine zg za false [] 200 rfl AllP.n ?_
   exact .inr ⟨rfl,[],g,_,_,Vw.sub' (z9h z0v),rfl,X1,e,G3,rfl,he,hJ1⟩
 ·rcases ha with ⟨g1,X1,rfl,X0,rfl,hI1⟩ | ⟨g1,X1,e,G3,he,rfl,rfl,X0,e2,G4,rfl,he2,hJ1⟩
  ·refine ⟨_,_,_,.normal,_,_,_,_,rfl,rfl,rfl,?_⟩
   refine zg za false [] 200 rfl AllP.n ?_
   refine ⟨rfl,_,rfl,.inl ⟨_,g1,X0,rfl,?_⟩⟩
   rw [List.take_length] at hI1;exact hI1
  ·refine ⟨_,_,_,.ret,_,_,_,_,rfl,rfl,rfl,?_⟩
   refine zg za false [] 200 rfl AllP.n ?_
   exact ⟨rfl,_,rfl,.inr ⟨_,g1,X0,e2,G4,he2,rfl,hJ1⟩⟩
theorem VSt.scope {E:Env} {N:Nat} {st:List Nat} {rd:Option Nat} {Q:zK} {c:Code} {K:List KI} {F:VK} {L:VS} (h:VSt.H E N st rd Q (.code c K F L)):VSt.H E N st rd Q (.code (.scope c) K F L):=by
 intro T S Z j h1 h2 h3 h4
 obtain ⟨n,r,h5,h6⟩:=h T S Z j h1 h2 h3 h4
 exact ⟨n+1,r,fun m hm=>by obtain ⟨k,rfl,hk⟩:=zh hm;exact h5 (k+1) (by omega),h6⟩
theorem VSt.label {E:Env} {N:Nat} {st:List Nat} {rd:Option Nat} {Q:zK} {n:Nat} {K:List KI} {F:VK} {L:VS} (h:VSt.H E N st rd Q (.ex .normal K F L)):VSt.H E N st rd Q (.code (.label n) K F L):=fun T S Z j h1 h2 h3 h4 =>
 ⟨1,⟨.normal,T,S⟩,fun m hm=>by obtain ⟨k,rfl,_⟩:=zh hm;rfl,F,L,Z,j,z3f h1 h2 h3 h4,h⟩
noncomputable def zqh (h:Hp) (p:Int):Int:=if ppE h p=0 then Int.ofNat (min (zu h p).length 1000) else 0
set_option maxHeartbeats 8000000 in
theorem zlD {h:Hp} {p:Int} (hz:SzH h):VP (sE r) 38 [.agg ((eHp h).map .p),iv p] (.tup [iv (zqh h p),iv (ppE h p)]):=by
 have hc:=z2o (r:=r) (p:=p) hz
 rcases z4r h p with ⟨hO,e⟩ | e
 rotate_left
 ·rw [show zqh h p=0 from if_neg (zau e)]
  refine VP.of (fn:=Tryz.f38) za (zD rfl) (by kernel_rfl) rfl rfl rfl ?_
  refine VSt.go za false [] 200 rfl AllP.n ?_
  refine z02 (z00 0 (eHp h) rfl rfl) ?_
  refine VSt.scope ?_
  refine VSt.go za false [] 200 rfl AllP.n ?_
  refine VSt.pc rfl rfl rfl rfl rfl rfl rfl rfl (hc) ?_
  refine VSt.go za false [] 200 rfl AllP.n ?_
  refine VSt.cond rfl (fun _=>?_) (fun q=>absurd (q.symm.trans e) (by decide))
  refine VSt.go za false [] 200 rfl AllP.n ?_
  exact EndsP.mk rfl rfl rfl rfl
 rw [show zqh h p=Int.ofNat (min (zu h p).length 1000) from if_pos e]
 rw [e] at hc ⊢
 refine VP.of (fn:=Tryz.f38) za (zD rfl) (by kernel_rfl) rfl rfl rfl ?_
 refine VSt.go za false [] 200 rfl AllP.n ?_
 refine z02 (z00 0 (eHp h) rfl rfl) ?_
 refine VSt.scope ?_
 refine VSt.go za false [] 200 rfl AllP.n ?_
 refine VSt.pc rfl rfl rfl rfl rfl rfl rfl rfl (hc) ?_
 refine VSt.go za false [] 200 rfl AllP.n ?_
 refine VSt.cond rfl (fun q=>absurd q (by decide)) (fun _=>?_)
 refine VSt.go za false [] 200 rfl AllP.n ?_
 refine VSt.label ?_
 refine VSt.go za false [] 200 rfl AllP.n ?_
 refine VSt.pc rfl rfl rfl rfl rfl rfl rfl rfl ((z5H (h:=h) (p:=p))) ?_
 refine VSt.go za false [] 200 rfl AllP.n ?_
 refine z02 (Vw.kp [4,5,7,16] [(12,0)] rfl) ?_
 refine z14 10 [10,12] rfl rfl rfl rfl rfl
  (z4t hz hO [12] (fun q X=>X=[(12,.cells [nv q] 3)]∧q<1000) (fun e X=>e = .exit 0∧X=[(12,.cells [nv 1000] 3)]∧1000≤(zu h p).length)
   (fun i hi=>by show bk [(12,_)] i=none;rw [zA,if_neg (by omega)];rfl) ⟨rfl,by decide⟩ rfl ?_) (fun a L' ha=>?_)
 ·rintro q row g lpi X hq hn hg ⟨rfl,hq1⟩
  have hql:q<(zu h p).length:=(List.getElem?_eq_some_iff.1 hq).1
  unfold zkt z6u
  refine zg za false [] 200 rfl AllP.n ?_
  refine ⟨rfl,_,rfl,?_⟩
  refine zg za false [20] 200 rfl (AllP.c (by unfold inR;(try simp only [yl]);omega) AllP.n) ?_
  refine zg za false [] 200 rfl AllP.n ?_
  refine VSt.cond rfl (fun h1=>?_) (fun h1=>?_)
  ·have h1:(Int.ofNat (q+1)==1000)=true:=h1
   have e1:q=999:=by
    have:=eq_of_beq h1
    simp only [yl] at this
    omega
   subst e1
   refine zg za false [] 200 rfl AllP.n ?_
   exact .inr ⟨rfl,[],_,_,Vw.sub' (z9h z0v),rfl,rfl,hql⟩
  ·have h1:(Int.ofNat (q+1)==1000)=false:=h1
   have e1:q+1≠1000:=fun e=>by rw [e] at h1;exact absurd h1 (by decide)
   refine zg za false [] 200 rfl AllP.n ?_
   exact .inl ⟨rfl,[],_,Vw.sub' (z9h z0v),rfl,by omega⟩
 ·rcases ha with ⟨lp,g1,X,rfl,rfl,hlt⟩ | ⟨lp,g1,X,e,G3,he,rfl,rfl,rfl,hle⟩
  ·refine ⟨_,_,_,.normal,_,_,_,_,rfl,rfl,rfl,?_⟩
   refine zg za false [] 200 rfl AllP.n ?_
   refine EndsP.mk rfl rfl rfl ?_
   rw [Nat.min_eq_left (by omega)];rfl
  ·refine ⟨_,_,_,.exit 0,_,_,_,_,rfl,rfl,rfl,?_⟩
   refine zg za false [] 200 rfl AllP.n ?_
   refine EndsP.mk rfl rfl rfl ?_
   rw [Nat.min_eq_right hle];rfl
theorem ziA {n n0 c ex:Nat} {g:Nat→Sht} {rl:List Sht} (hn:n=rl.length) (h0:n≤n0) (hc:n≤c) (hg:∀ k,k<n→g k=zi rl k) (hl:n≤1000) :
  VC (sE r) [0] 111 [.sl 0 6 0 n c ex] [(0,.arr n0 6 (fun q=>zX (g q)) 74)] (fun a L'=>a = .p (eL (rl.map (·.id)))∧L'=[(0,.arr n0 6 (fun q=>zX (g q)) 74)]):=by
 subst hn
 refine z7o (fn:=Tryz.f111) za (zD rfl) (by kernel_rfl) rfl rfl ?_
 refine VSt.go za false [] 200 rfl AllP.n ?_
 refine z02 (z3H 1 1 (fL []) 3 rfl) ?_
 refine z0R za rl.length (by omega) [6] (fun k=>[(3,.acc true 1 1 ((rl.take k).map (·.id)).length)]) (fun k=>[(1,.acc ((rl.take k).map (·.id)).length 1 (fL ((rl.take k).map (·.id))) 3),(0,.arr n0 6 (fun q=>zX (g q)) 74)]) (fun _=>True) rfl rfl rfl (fun _=>rfl) rfl rfl (z2s rfl z1g z0X) (LImp.refl _) trivial (fun k hk _=>?_) (fun _=>?_)
 ·have e:=zeZ (f:=fun s:Sht=>s.id) hk
  have hN:=congrArg List.length e
  rw [List.length_append,List.length_singleton] at hN
  have hlen:((rl.take k).map (·.id)).length=k:=by rw [List.length_map,List.length_take];omega
  have hk0:0+k<n0:=by omega
  rw [show rl.getD k default=g (0+k) by rw [Nat.zero_add,hg k hk];rfl] at e
  refine VSt.go za false [] 200 rfl (AllP.c ‹_› (AllP.c rfl (AllP.c ‹_› (AllP.c rfl (AllP.c (by omega) (AllP.c (by omega) (AllP.c (fun q hq=>match q,hq with | 0,_=>rfl) (AllP.c rfl (AllP.c rfl (AllP.c rfl AllP.n)))))))))) ?_
  refine ⟨?_,trivial⟩
  exact z0F (ps:=[(1,3),(0,0)]) ⟨rfl,rfl,(by repeat (first | exact zw | refine zo rfl rfl rfl ?_ | refine z2c rfl rfl z6h ?_ | refine z2c rfl rfl (AImp.acc hN.symm (fun _=>rfl)) ?_)),_,rfl,⟨rfl,BImp.acc hN.symm (fun q hq=>by rw [e];exact ze4 _ _ q hq),rfl,BImp.refl _,trivial⟩⟩
 ·rw [List.take_length]
  refine VSt.go za false [18] 200 rfl AllP.n ?_
  refine zf (Vw.kp [3] [(1,1),(0,0)] rfl) ?_
  refine zf (z1K 1 rfl rfl ⟨ym _,rfl⟩) ?_
  refine VSt.go za false [] 200 rfl AllP.n ?_
  exact ⟨rfl,_,rfl,zmn rfl,rfl⟩
def zT (h:Hp) (p:Int) (row:List Nat):List Int:=(zQ (zJ h.st p) row).map (·.id)
def y5 (h:Hp) (p:Int) (m:Nat):List Int:=match (zu h p)[m]? with
 | some row=>zT h p row
 | none=>[]
theorem z5e {h:Hp} {p:Int} {m:Nat} {row:List Nat} (e:(zu h p)[m]? = some row):y5 h p m=zT h p row:=by unfold y5;rw [e]
theorem zi9 {h:Hp} {p:Int} {m:Nat} (e:(zu h p).length≤m):y5 h p m=[]:=by unfold y5;rw [List.getElem?_eq_none e]
set_option maxHeartbeats 8000000 in
theorem zlW {h:Hp} {p:Int} {m:Nat} (hz:SzH h) (hO:OkH h) (hm:m≤1000000):VP (sE r) 101 [.agg ((eHp h).map .p),iv p,nv m] (.tup [.p (eL (y5 h p m)),bv (decide (m<(zu h p).length))]):=by
 have hb7:=z3G hO p
 refine VP.of (fn:=Tryz.f101) za (zD rfl) (by kernel_rfl) rfl rfl rfl ?_
 refine VSt.go za false [] 200 rfl AllP.n ?_
 refine zf (z00 0 (eHp h) rfl rfl) ?_
 refine zf (z00 1 [.int .i64 (Int.ofNat m)] rfl rfl) ?_
 refine VSt.pc rfl rfl rfl rfl rfl rfl rfl rfl ((z5H (h:=h) (p:=p))) ?_
 refine VSt.go za false [] 200 rfl AllP.n ?_
 refine z02 (Vw.kp [3,5,6,7,8,12] [(14,4),(13,3),(12,2)] rfl) ?_
 refine z14 10 [10,12,13,14] rfl rfl rfl rfl rfl
  (z4t hz hO [12,13,14] (fun q X=>X=[(14,.cells [nv q] 3),(13,.cells [bv false] 4),(12,.cells [.p (.lst 0 true 0 fun _=>[])] 37)]∧q≤m)
   (fun e X=>e = .ret∧∃ row,(zu h p)[m]? = some row∧X=[(14,.cells [nv m] 3),(13,.cells [bv true] 4),(12,.cells [.p (eL (zT h p row))] 37)])
   (fun i hi=>by show bk [(14,_),(13,_),(12,_)] i=none;rw [zA,if_neg (by omega),zA,if_neg (by omega),zA,if_neg (by omega)];rfl) ⟨rfl,yu _⟩ rfl ?_) (fun a L' ha=>?_)
 ·rintro q row g lpi X hq hn hg ⟨rfl,hq1⟩
  have hrl:(zJ h.st p).length=(zQ (zJ h.st p) row).length:=by rw [z0x,hn]
  have hg2:∀ k,k<(zJ h.st p).length→g k=zi (zQ (zJ h.st p) row) k:=fun k hk=>hg k (by omega)
  unfold zkt z6u
  refine zg za false [] 200 rfl AllP.n ?_
  refine ⟨rfl,_,rfl,?_⟩
  refine zg za false [] 200 rfl AllP.n ?_
  refine VSt.cond rfl (fun h1=>?_) (fun h1=>?_)
  ·have h1:(Int.ofNat q==Int.ofNat m)=true:=h1
   have e1:q=m:=by
    have:=eq_of_beq h1
    simp only [yl] at this
    omega
   subst e1
   refine zg za false [18] 200 rfl AllP.n ?_
   refine VSt.fr 1 [(17,.sl 5 6 0 (zJ h.st p).length (zJ h.st p).length 1)] [(6,.ref 12 0),(7,.ref 13 0)] 5 (by repeat (first | exact z0v | refine z0J rfl ?_)) (by repeat (first | exact z0v | refine z0J rfl ?_)) rfl rfl rfl ?_
   refine VSt.cc [(0,5)] rfl rfl rfl rfl rfl rfl rfl rfl rfl rfl rfl (ziA (rl:=zQ (zJ h.st p) row) hrl (ym _) (ym _) hg2 (by omega)) (fun a L' ha=>?_)
   rcases ha with ⟨rfl,rfl⟩
   refine VSt.go za false [] 200 rfl AllP.n ?_
   refine ⟨rfl,[(18,.p (eL (zT h p row)))],(fun q=>zX (g q)),Vw.kp [18] [(5,5)] rfl,rfl,?_⟩
   refine zg za false [] 200 rfl AllP.n ?_
   exact .inr ⟨rfl,[],_,_,Vw.sub' (z9h z0v),rfl,row,hq,rfl⟩
  ·have h1:(Int.ofNat q==Int.ofNat m)=false:=h1
   have e1:q≠m:=fun e=>by rw [e,beq_self_eq_true] at h1;cases h1
   refine zg za false [] 200 rfl (AllP.c (by unfold inR;(try simp only [yl]);omega) AllP.n) ?_
   exact .inl ⟨rfl,[],_,Vw.sub' (z9h z0v),rfl,by omega⟩
 ·rcases ha with ⟨lp,g1,X,rfl,rfl,hlt⟩ | ⟨lp,g1,X,e,G3,he,rfl,rfl,row,hrow,rfl⟩
  ·refine ⟨_,_,_,.normal,_,_,_,_,rfl,rfl,rfl,?_⟩
   refine zg za false [] 200 rfl AllP.n ?_
   rw [zi9 hlt,decide_eq_false (show ¬ m<(zu h p).length by omega)]
   refine ⟨rfl,_,rfl,rfl,?_⟩
   exact AImp.tup ⟨AImp.nil,AImp.refl _,trivial⟩
  ·refine ⟨_,_,_,.ret,_,_,_,_,rfl,rfl,rfl,?_⟩
   refine zg za false [] 200 rfl AllP.n ?_
   refine EndsP.mk rfl rfl rfl ?_
   have hlt:=(List.getElem?_eq_some_iff.1 hrow).1
   rw [z5e hrow,decide_eq_true hlt];rfl
theorem zl9 {b1 b2:Bool} {l m:List Int} (hl:l.length<9223372036854775808) (hm:m.length<9223372036854775808):VP (sE r) 141 [.p (z1V b1 l),.p (z1V b2 m)] (bv (l==m)):=by
 refine VP.of (fn:=Tryz.f141) za (zD rfl) (by kernel_rfl) rfl rfl rfl ?_
 refine VSt.go za false [] 200 rfl AllP.n ?_
 refine VSt.cond rfl (fun h=>?_) (fun h=>?_)
 ·have h:(!(Int.ofNat l.length==Int.ofNat m.length))=true:=h
  have e:(l==m)=false:=by
   rw [←Bool.not_eq_true]
   intro g
   rw [eq_of_beq g,beq_self_eq_true] at h;cases h
  refine VSt.go za false [] 200 rfl AllP.n ?_
  refine EndsP.mk rfl rfl rfl ?_
  show bv false=bv _
  rw [e]
 have h:(!(Int.ofNat l.length==Int.ofNat m.length))=false:=h
 have e:l.length=m.length:=by
  have:=eq_of_beq (show (Int.ofNat l.length==Int.ofNat m.length)=true by simpa using h)
  simp only [yl] at this
  omega
 refine VSt.go za false [] 200 rfl AllP.n ?_
 refine z0R za l.length hl [0,1] (fun _=>[]) (fun _=>[]) (fun k=>∀ i,i<k→l.getD i 0=m.getD i 0) rfl rfl rfl (fun _=>rfl) rfl rfl z0X trivial none0 (fun k hk hp=>?_) (fun hp=>?_)
 ·have hkm:k<m.length:=by omega
  refine VSt.go za false [] 200 rfl (AllP.c ‹_› (AllP.c rfl (AllP.c ‹_› (AllP.c rfl AllP.n)))) ?_
  refine VSt.cond rfl (fun h1=>?_) (fun h1=>?_)
  ·have h1:(!(l.getD k 0==m.getD k 0))=true:=h1
   have e2:(l==m)=false:=by
    rw [←Bool.not_eq_true]
    intro g
    rw [eq_of_beq g,beq_self_eq_true] at h1;cases h1
   refine VSt.go za false [] 200 rfl AllP.n ?_
   refine EndsP.mk rfl rfl rfl ?_
   show bv false=bv _
   rw [e2]
  ·have h1:(!(l.getD k 0==m.getD k 0))=false:=h1
   refine VSt.go za false [] 200 rfl AllP.n ?_
   exact ⟨by (refine Vw.drop (by repeat (first | exact zw | refine zo rfl rfl rfl ?_ | refine z0k rfl ‹_› (z08 _ ‹_›) ?_))),z16 hp (eq_of_beq (by simpa using h1))⟩
 ·have e2:l=m:=List.ext_getElem e fun i h1 h2=>by
   have:=hp i h1
   rwa [zt h1,zt h2] at this
  refine VSt.go za false [] 200 rfl AllP.n ?_
  refine EndsP.mk rfl rfl rfl ?_
  show bv true=bv _
  rw [e2,beq_self_eq_true]
theorem ziB {b:Bool} {l:List Sht} (hn:l.length≤1000):VC (sE r) [] 111 [.p (z0M b l)] [] (fun a L'=>a = .acc true 0 1 (l.map (·.id)).length∧L'=[(0,.acc (l.map (·.id)).length 1 (fL (l.map (·.id))) 3)]):=by
 refine z7o (fn:=Tryz.f111) za (zD rfl) (by kernel_rfl) rfl rfl ?_
 refine VSt.go za false [] 200 rfl AllP.n ?_
 refine z02 (z3H 0 1 (fL []) 3 rfl) ?_
 refine z0R za l.length (by omega) [6] (fun k=>[(3,.acc true 0 1 ((l.take k).map (·.id)).length)]) (fun k=>[(0,.acc ((l.take k).map (·.id)).length 1 (fL ((l.take k).map (·.id))) 3)]) (fun _=>True) rfl rfl rfl (fun _=>rfl) rfl rfl (z2s rfl z1g z0X) (LImp.refl _) trivial (fun k hk _=>?_) (fun _=>?_)
 ·have e:=zeZ (f:=fun s:Sht=>s.id) hk
  have hN:=congrArg List.length e
  rw [List.length_append,List.length_singleton] at hN
  have hlen:((l.take k).map (·.id)).length=k:=by rw [List.length_map,List.length_take];omega
  refine VSt.go za false [] 200 rfl (AllP.c ‹_› (AllP.c rfl (AllP.c (by omega) (AllP.c (by omega) (AllP.c (fun q hq=>match q,hq with | 0,_=>rfl) (AllP.c rfl (AllP.c rfl (AllP.c rfl AllP.n)))))))) ?_
  refine ⟨?_,trivial⟩
  exact z0F (ps:=[(0,2)]) ⟨rfl,rfl,(by repeat (first | exact zw | refine zo rfl rfl rfl ?_ | refine z2c rfl rfl z6h ?_ | refine z2c rfl rfl (AImp.acc hN.symm (fun _=>rfl)) ?_)),_,rfl,⟨rfl,BImp.acc hN.symm (fun q hq=>by rw [e];exact ze4 _ _ q hq),trivial⟩⟩
 ·rw [List.take_length]
  refine VSt.go za false [18] 200 rfl AllP.n ?_
  refine zf (Vw.kp [3] [(0,0)] rfl) ?_
  refine VSt.go za false [] 200 rfl AllP.n ?_
  exact ⟨rfl,_,rfl,rfl,rfl⟩
def zaM (h:Hp) (p:Int) (o:List Int):Bool:=(zu h p).any fun row=>zT h p row==o
set_option maxHeartbeats 8000000 in
theorem zgc {h:Hp} {p:Int} {b:Bool} {o:List Int} (hz:SzH h) (hO:OkH h) (ho:o.length<9223372036854775808):VP (sE r) 100 [.agg ((eHp h).map .p),iv p,.p (z1V b o)] (bv (zaM h p o)):=by
 have hb7:=z3G hO p
 refine VP.of (fn:=Tryz.f100) za (zD rfl) (by kernel_rfl) rfl rfl rfl ?_
 refine VSt.go za false [] 200 rfl AllP.n ?_
 refine zf (z00 0 (eHp h) rfl rfl) ?_
 refine zf (z00 1 [z1V b o] rfl rfl) ?_
 refine VSt.pc rfl rfl rfl rfl rfl rfl rfl rfl ((z5H (h:=h) (p:=p))) ?_
 refine VSt.go za false [] 200 rfl AllP.n ?_
 refine z02 (Vw.kp [3,5,6,10] [(12,2)] rfl) ?_
 refine z14 10 [10,12] rfl rfl rfl rfl rfl
  (z4t hz hO [12] (fun q X=>X=[(12,.cells [bv false] 4)]∧((zu h p).take q).any (fun row=>zT h p row==o)=false)
   (fun e X=>e = .ret∧zaM h p o=true∧X=[(12,.cells [bv true] 4)])
   (fun i hi=>by show bk [(12,_)] i=none;rw [zA,if_neg (by omega)];rfl) ⟨rfl,rfl⟩ rfl ?_) (fun a L' ha=>?_)
 ·rintro q row g lpi X hq hn hg ⟨rfl,hq1⟩
  have hrl:(zJ h.st p).length=(zQ (zJ h.st p) row).length:=by rw [z0x,hn]
  have hg2:∀ k,k<(zJ h.st p).length→g k=zi (zQ (zJ h.st p) row) k:=fun k hk=>hg k (by omega)
  unfold zkt z6u
  refine zg za false [] 200 rfl AllP.n ?_
  refine ⟨rfl,_,rfl,?_⟩
  refine zg za false [] 200 rfl AllP.n ?_
  refine zgy (F0:=[(12,.p (.lst 74 false (zJ h.st p).length fun q=>zX (g q)))]) (ze8 (i:=5) rfl (zik rfl (ym _) (ym _) zaI)) rfl rfl rfl rfl rfl rfl rfl
   (fun S Z j vs h1 h2 h3=>ziB (b:=false) (l:=zQ (zJ h.st p) row) (by omega) S Z j vs h1 ((show AImps [.p (.lst 74 false (zJ h.st p).length fun q=>zX (g q))] [.p (z0M false (zQ (zJ h.st p) row))] from ⟨zdw hrl hg2,trivial⟩).vrs h2) h3)
   (fun k hk=>rfl) ?_
  refine zg za false [] 200 rfl AllP.n ?_
  refine z2U rfl rfl rfl rfl rfl rfl rfl rfl ((zl9 (b1:=Nat.beq (zT h p row).length 0) (b2:=b) (l:=zT h p row) (m:=o) (by unfold zT;rw [List.length_map];omega) ho)) ?_
  refine zg za false [] 200 rfl AllP.n ?_
  refine VSt.cond rfl (fun h1=>?_) (fun h1=>?_)
  ·have h1:(zT h p row==o)=true:=h1
   refine zg za false [] 200 rfl AllP.n ?_
   refine .inr ⟨rfl,[],_,_,Vw.sub' (z9h z0v),rfl,?_,rfl⟩
   exact List.any_eq_true.2 ⟨row,List.mem_of_getElem? hq,h1⟩
  ·have h1:(zT h p row==o)=false:=h1
   refine zg za false [] 200 rfl AllP.n ?_
   refine .inl ⟨rfl,[],_,Vw.sub' (z9h z0v),rfl,?_⟩
   rw [List.take_add_one,hq,List.any_append,hq1]
   show (false||((zT h p row==o)||false))=false
   rw [h1];rfl
 ·rcases ha with ⟨lp,g1,X,rfl,rfl,hlt⟩ | ⟨lp,g1,X,e,G3,he,rfl,rfl,hrow,rfl⟩
  ·refine ⟨_,_,_,.normal,_,_,_,_,rfl,rfl,rfl,?_⟩
   refine zg za false [] 200 rfl AllP.n ?_
   refine EndsP.mk rfl rfl rfl ?_
   rw [List.take_length] at hlt
   rw [show zaM h p o=false from hlt];rfl
  ·refine ⟨_,_,_,.ret,_,_,_,_,rfl,rfl,rfl,?_⟩
   refine zg za false [] 200 rfl AllP.n ?_
   refine EndsP.mk rfl rfl rfl ?_
   rw [hrow];rfl
def zU (l:List Nat) (k:Nat):Nat:=l.getD k 0
def zoo (h:Hp) (s:Sht):Bool:=h.sw.any fun x=>x.too==s.id
def zoW (h:Hp) (s:Sht):Bool:=h.sw.any fun x=>x.fro==s.id
theorem ze6 {p:Sew→Bool} {w:List Sew} {k:Nat} (hk:k<w.length) (h:p (zB w k)=true):w.any p=true:=List.any_eq_true.2 ⟨_,z09 hk,h⟩
theorem zbe {p:Sew→Bool} {w:List Sew} (h:∀ k,k<w.length→p (zB w k)=false):w.any p=false:=by
 rw [←Bool.not_eq_true,List.any_eq_true]
 rintro ⟨x,hx,h1⟩
 obtain ⟨k,hk,e⟩:=z0y (d:=default) hx
 have:=h k hk
 rw [show zB w k=x from e,h1] at this;cases this
theorem z8l {b:Bool} {l:List Int} {n:Int} (hl:l.length<9223372036854775808):VP (sE r) 34 [.p (z1V b l),iv n] (iv (z7c l fun x=>x==n)):=by
 refine VP.of (fn:=Tryz.f34) za (zD rfl) (by kernel_rfl) rfl rfl rfl ?_
 refine VSt.go za false [] 200 rfl AllP.n ?_
 refine z0G (ti:=5) l.length [0,1] (fun _=>[]) (fun _=>[]) (fun k=>∀ q,q<k→(l.getD q 0==n)=false) rfl rfl z0X trivial none0 (fun k hk hp=>?_)
 refine VSt.go za false [] 200 rfl AllP.n ?_
 refine VSt.cond rfl (fun g=>?_) (fun g=>?_)
 ·have g:=nlt g
  refine VSt.go za false [] 200 rfl (AllP.c ‹_› (AllP.c rfl AllP.n)) ?_
  refine VSt.cond rfl (fun h1=>?_) (fun h1=>?_)
  ·have h1:(l.getD k 0==n)=true:=h1
   refine VSt.go za false [] 200 rfl AllP.n ?_
   refine EndsP.mk rfl rfl rfl ?_
   rw [z7I (p:=fun x:Int=>x==n) g h1 hp];rfl
  ·have h1:(l.getD k 0==n)=false:=h1
   refine VSt.go za false [] 200 rfl (AllP.c (by unfold inR;(try simp only [yl]);omega) AllP.n) ?_
   exact ⟨g,by (refine Vw.drop (by repeat (first | exact zw | refine zo rfl rfl rfl ?_ | refine z0k rfl ‹_› (z08 _ ‹_›) ?_))),z16 hp h1⟩
 ·have g:k=l.length:=by have:=nge g;omega
  subst g
  refine VSt.go za false [] 200 rfl AllP.n ?_
  refine EndsP.mk rfl rfl rfl ?_
  rw [z8O (p:=fun x:Int=>x==n) hp];rfl
theorem zhI {b:Bool} {l:List Int} {n:Int} (hl:l.length<9223372036854775808):VP (sE r) 37 [.p (z1V b l),iv n] (bv (l.contains n)):=by
 have e:decide (0≤z7c l fun x=>x==n)=l.contains n:=by
  rcases z4D l (fun x=>x==n) with h | ⟨k,h⟩
  ·rw [h]
   have h2:=zaP h
   have h3:l.contains n=false:=by
    rw [←Bool.not_eq_true,List.contains_iff_mem]
    intro hm
    rw [←h2] at hm
    have:=(List.mem_filter.1 hm).2
    rw [beq_self_eq_true] at this;cases this
   rw [h3];rfl
  ·obtain ⟨h1,h2,_⟩:=z4C h
   rw [h]
   have h3:l.contains n=true:=by
    rw [List.contains_iff_mem]
    have h4:l.getD k default∈l:=z09 h1
    rwa [eq_of_beq h2] at h4
   rw [h3]
   exact decide_eq_true (by simp only [yl];omega)
 refine VP.of (fn:=Tryz.f37) za (zD rfl) (by kernel_rfl) rfl rfl rfl ?_
 refine VSt.go za false [] 200 rfl AllP.n ?_
 refine VSt.pc rfl rfl rfl rfl rfl rfl rfl rfl ((z8l (b:=b) (n:=n) hl)) ?_
 refine VSt.go za false [] 200 rfl AllP.n ?_
 refine EndsP.mk rfl rfl rfl ?_
 show bv _=bv _
 rw [←e]
def zfS (h:Hp) (l:List Nat):List Sht:=l.map fun i=>zi h.st i
theorem zhy {h:Hp} {l:List Nat} {k:Nat} (hk:k<l.length):zi (zfS h l) k=zi h.st (zU l k):=by
 unfold zfS zi zU
 rw [zt (show k<(l.map fun i=>h.st.getD i default).length by rw [List.length_map];exact hk),List.getElem_map,zt hk]
def zaK (l:List Nat):Nat:=zU l (l.length - 1)
def zox (h:Hp) (l:List Nat):Bool:=bif Nat.beq l.length 0 then false else zoW h (zi h.st (zaK l))
def zmh (h:Hp) (l:List Nat) (x:Nat):Bool:=bif Nat.beq l.length 0 then !zoo h (zi h.st x) else zhE h (zaK l) x (zi h.st (zaK l)) (zi h.st x)
def z9l (h:Hp):Nat→List Nat→List Nat→List (List Nat)
 | 0,bg,_=>bif zox h bg then [] else [bg]
 | f+1,bg,lf=>(List.range lf.length).flatMap fun i=>bif zmh h bg (zU lf i) then z9l h f (bg++[zU lf i]) (lf.eraseIdx i) else []
def zid (h:Hp) (f:Nat) (bg lf:List Nat):Nat→List (List Nat)
 | 0=>[]
 | k+1=>zid h f bg lf k++bif zmh h bg (zU lf k) then z9l h f (bg++[zU lf k]) (lf.eraseIdx k) else []
theorem zic {h:Hp} {f:Nat} {bg lf:List Nat}:zid h f bg lf lf.length=z9l h (f+1) bg lf:=by
 have:∀ k,zid h f bg lf k=(List.range k).flatMap fun i=>bif zmh h bg (zU lf i) then z9l h f (bg++[zU lf i]) (lf.eraseIdx i) else []:=fun k=>by
  induction k with
  | zero=>rfl
  | succ k ih=>rw [z9S,←ih];rfl
 exact this _
def fac:Nat→Nat
 | 0=>1
 | f+1=>(f+1)*fac f
theorem zc0 {h:Hp}:∀ f {bg lf:List Nat},lf.length=f→(z9l h f bg lf).length≤fac f
 | 0,bg,lf,_=>by
  show (bif zox h bg then [] else [bg]).length≤1
  cases zox h bg <;> simp
 | f+1,bg,lf,hf=>by
  have hk:∀ k,k≤lf.length→(zid h f bg lf k).length≤k*fac f:=fun k=>by
   induction k with
   | zero=>intro _;exact yu _
   | succ k ih =>
    intro hk
    have h1:=ih (by omega)
    have h2:(z9l h f (bg++[zU lf k]) (lf.eraseIdx k)).length≤fac f:=zc0 f (by rw [List.length_eraseIdx_of_lt (by omega)];omega)
    show (zid h f bg lf k++_).length≤_
    rw [List.length_append,Nat.succ_mul]
    cases zmh h bg (zU lf k) with
    | true=>exact Nat.add_le_add h1 h2
    | false=>exact yn h1 (Nat.le_add_right _ _)
  rw [←zic]
  have:=hk lf.length (ym _)
  rw [hf] at this ⊢
  exact this
theorem zrW {f:Nat} (h:f≤7):fac f≤5040:=by
 match f,h with
 | 0,_=>decide
 | 1,_=>decide
 | 2,_=>decide
 | 3,_=>decide
 | 4,_=>decide
 | 5,_=>decide
 | 6,_=>decide
 | 7,_=>decide
theorem ze2 {a b:Nat} (h:a≠b):Nat.beq a b=false:=by rw [←Bool.not_eq_true];exact fun e=>h (Nat.eq_of_beq_eq_true e)
theorem zrX {h:Hp} {bg:List Nat} {x m:Nat} (e:bg.length=m+1):zmh h bg x=zhE h (zaK bg) x (zi h.st (zaK bg)) (zi h.st x):=by unfold zmh;rw [e];rfl
def zaJ (l:List Sht) (p:Int):Nat→List Nat
 | 0=>[]
 | k+1=>bif (zi l k).paper==p then zaJ l p k++[k] else zaJ l p k
def z4N (l:List Sht) (p:Int):List Nat:=zaJ l p l.length
theorem z8A {l:List Sht} {p:Int}:∀ k,∀ x∈zaJ l p k,x<k
 | 0,x,h=>by cases h
 | k+1,x,h=>by
  have h:x∈(bif (zi l k).paper==p then zaJ l p k++[k] else zaJ l p k):=h
  cases hb:(zi l k).paper==p with
  | true =>
   rw [hb,cond_true] at h
   rcases List.mem_append.1 h with h | h
   ·exact Nat.lt_succ_of_lt (z8A k x h)
   ·rw [List.mem_singleton.1 h];exact Nat.lt_succ_self _
  | false =>
   rw [hb] at h
   exact Nat.lt_succ_of_lt (z8A k x h)
theorem zf5 {l:List Sht} {p:Int}:∀ k,k≤l.length→(zaJ l p k).map (fun i=>zi l i)=(l.take k).filter fun s=>s.paper==p
 | 0,_=>by simp [zaJ]
 | k+1,hk=>by
  have ih:=zf5 (l:=l) (p:=p) k (by omega)
  rw [z3h l _ (by omega),←ih]
  show ((bif (zi l k).paper==p then zaJ l p k++[k] else zaJ l p k).map _)=(bif (zi l k).paper==p then _ else _)
  cases (zi l k).paper==p with
  | true=>rw [cond_true,cond_true,List.map_append];rfl
  | false=>rfl
theorem z4z {l:List Sht} {p:Int}:(z4N l p).map (fun i=>zi l i)=zJ l p:=by
 unfold z4N
 rw [zf5 _ (ym _),List.take_length];rfl
def zhC (h:Hp) (p:Int):List (List Nat):=z9l h (z4N h.st p).length [] (z4N h.st p)
def zjR (R:List (List Nat)) (k:Nat):List Nat:=R.getD k []
def zfV (h:Hp) (o:List Nat):List Int:=(zfS h o).map (·.id)
def zjP (h:Hp) (R:List (List Nat)):Nat→List (List Int)
 | 0=>[]
 | k+1=>bif y8 (zfS h (zjR R k)) 12==0 then zjP h R k++[zfV h (zjR R k)] else zjP h R k
def zn2 (h:Hp) (p:Int):List (List Int):=zjP h (zhC h p) (zhC h p).length
theorem zeN {h:Hp} {R:List (List Nat)}:∀ k,(zjP h R k).length≤k
 | 0=>ym _
 | k+1=>by
  have ih:=zeN (h:=h) (R:=R) k
  show (bif y8 (zfS h (zjR R k)) 12==0 then zjP h R k++[zfV h (zjR R k)] else zjP h R k).length≤_
  cases y8 (zfS h (zjR R k)) 12==0 with
  | true=>rw [cond_true,List.length_append];exact Nat.succ_le_succ ih
  | false=>exact Nat.le_succ_of_le ih
theorem zkj {h:Hp} (hO:OkH h) (p:Int):(zhC h p).length≤5040:=by
 have hl7:(z4N h.st p).length≤7:=by
  have:=z3G hO p
  rw [←z4z,List.length_map] at this;exact this
 exact yn (zc0 _ rfl) (zrW hl7)
end
section
theorem zmG {h:Hp} (n:OkH h) (s:Sht):zoW h s = !(toS h s.id==0):=by
 rcases z3R n s.id with ⟨j,hj,h1,h2⟩ | ⟨h1,h2⟩
 ·have h3:zoW h s=true:=ze6 (p:=fun x:Sew=>x.fro==s.id) hj (by show ((zB h.sw j).fro==s.id)=true;rw [h1,beq_self_eq_true])
  have h4:(toS h s.id==0)=false:=by
   rw [←Bool.not_eq_true,beq_iff_eq,h2]
   have:=(n.pos hj).2;omega
  rw [h3,h4];rfl
 ·have h3:zoW h s=false:=zbe (p:=fun x:Sew=>x.fro==s.id) fun k hk=>by
   rw [←Bool.not_eq_true,beq_iff_eq];exact h1 k hk
  rw [h3,h2];rfl
theorem znR {h:Hp} (n:OkH h) (s:Sht):zoo h s = !(frS h s.id==0):=by
 rcases z4d n s.id with ⟨j,hj,h1,h2⟩ | ⟨h1,h2⟩
 ·have h3:zoo h s=true:=ze6 (p:=fun x:Sew=>x.too==s.id) hj (by show ((zB h.sw j).too==s.id)=true;rw [h1,beq_self_eq_true])
  have h4:(frS h s.id==0)=false:=by
   rw [←Bool.not_eq_true,beq_iff_eq,h2]
   have:=(n.pos hj).1;omega
  rw [h3,h4];rfl
 ·have h3:zoo h s=false:=zbe (p:=fun x:Sew=>x.too==s.id) fun k hk=>by
   rw [←Bool.not_eq_true,beq_iff_eq];exact h1 k hk
  rw [h3,h2];rfl
theorem zpp {h:Hp} (n:OkH h) {i k:Nat} {x y:Sht} (hik:i≠k) (hp:x.paper=y.paper):zhE h i k x y=mayB h x y:=by
 unfold zhE mayB
 rw [←zoO n,show (i==k)=false by rw [←Bool.not_eq_true,beq_iff_eq];exact hik,hp,beq_self_eq_true]
 generalize ((toS h x.id==0||toS h x.id==y.id)&&(frS h y.id==0||frS h y.id==x.id))=T
 cases (x.catch_==y.first) <;> cases (x.catch_==0) <;> cases (y.first==0) <;> cases T <;> rfl
def zfq (h:Hp) (l:List Sht) (row:List Nat):Prop:=∀ k,k+1<row.length→mayB h (zi (zQ l row) k) (zi (zQ l row) (k+1))=true
theorem zgo {h:Hp} {l:List Sht} {row:List Nat} {i:Nat} (hc:zfq h l row) (hok:okR h l row i=true):zfq h l (i::row):=fun k hk=>by
 have hk:k+1<row.length+1:=hk
 cases row with
 | nil=>exact absurd hk (by show ¬ k+1<0+1;omega)
 | cons j t =>
  have hcf:(j::t).contains i=false:=by
   rw [←Bool.not_eq_true];intro g;rw [z8s g] at hok;cases hok
  rw [z4v hcf] at hok
  have ht:(j::t).length=t.length+1:=rfl
  by_cases c:k+1<(j::t).length
  ·rw [z5B (by omega),z5B c];exact hc k c
  ·have e:k=t.length:=by omega
   subst e
   rw [z5B (show t.length<(j::t).length by omega),z8h,show t.length+1=(j::t).length from rfl,z8h];exact hok
def zrF (h:Hp) (l:List Sht):List Nat→Bool
 | []=>true
 | i::_=>toS h (zi l i).id==0
theorem zhk {h:Hp} {l:List Sht} {row:List Nat} (hc:zfq h l row):zbt h (zQ l row)=zrF h l row:=by
 have hlen:=z0x (l:=l) (row:=row)
 cases row with
 | nil=>rfl
 | cons i t =>
  have ht:(i::t).length=t.length+1:=rfl
  have hlast:zi (zQ l (i::t)) t.length=zi l i:=z8h
  show _=(toS h (zi l i).id==0)
  cases h0:toS h (zi l i).id==0 with
  | true =>
   refine allB_iff.2 fun k hk=>?_
   by_cases c:k=t.length
   ·unfold okT;rw [c,hlast,h0];rfl
   ·have h1:=hc k (by omega)
    unfold okT
    unfold mayB at h1
    rw [yw,yw] at h1
    have h3:=h1.2.1
    rw [Bool.or_eq_true] at h3 ⊢
    rcases h3 with h2 | h2
    ·exact .inl h2
    ·exact .inr (by rw [decide_eq_true (show k+1<(zQ l (i::t)).length by omega),eq_of_beq h2,beq_self_eq_true];rfl)
  | false =>
   refine zbg (k:=t.length) (by omega) ?_
   unfold okT
   rw [hlast,h0,decide_eq_false (show ¬ t.length+1<(zQ l (i::t)).length by omega)];rfl
theorem z8z {l:List Sht} {p:Int}:∀ k,(zaJ l p k).Pairwise (· < ·)
 | 0=>List.Pairwise.nil
 | k+1=>by
  have ih:=z8z (l:=l) (p:=p) k
  show (bif (zi l k).paper==p then zaJ l p k++[k] else zaJ l p k).Pairwise _
  cases (zi l k).paper==p with
  | false=>exact ih
  | true =>
   rw [cond_true,List.pairwise_append]
   exact ⟨ih,List.pairwise_singleton _ _,fun a ha b hb=>by rw [List.mem_singleton.1 hb];exact z8A k a ha⟩
theorem zkJ {A:List Nat} (hA:A.Nodup) {i k:Nat} (hi:i<A.length) (hk:k<A.length) (e:zU A i=zU A k):i=k:=by
 unfold zU at e
 rw [zt hi,zt hk] at e
 exact (List.getElem_inj hA).1 e
theorem z7d {A:List Nat} (hA:A.Nodup) {i:Nat} (hi:i<A.length):A.eraseIdx i=A.filter fun x=>!(x==zU A i):=by
 have e:A=A.take i++zU A i::A.drop (i+1):=by
  unfold zU
  rw [zt hi,List.getElem_cons_drop,List.take_append_drop]
 have hA2:=hA
 generalize zU A i=z at *
 rw [e,List.nodup_append,List.nodup_cons] at hA2
 rw [List.eraseIdx_eq_take_drop_succ]
 conv=>rhs;rw [e]
 rw [List.filter_append,List.filter_cons_of_neg (by rw [beq_self_eq_true];decide)]
 congr 1
 ·refine (List.filter_eq_self.2 fun x hx=>?_).symm
  have:=hA2.2.2 x hx z (List.mem_cons_self ..)
  simpa using this
 ·refine (List.filter_eq_self.2 fun x hx=>?_).symm
  have:x≠z:=fun g=>hA2.2.1.1 (g ▸ hx)
  simpa using this
theorem zl5 {β : Type} (H:Nat→List β) (A:List Nat):(List.range A.length).flatMap (fun i=>H (zU A i))=A.flatMap H:=by
 have e:A=(List.range A.length).map fun i=>zU A i:=by
  refine List.ext_getElem (by rw [List.length_map,List.length_range]) fun k h1 h2=>?_
  rw [List.getElem_map,List.getElem_range]
  exact (zt h1).symm
 conv=>rhs;rw [e,List.flatMap_map]
theorem z4F {β : Type} {H K:Nat→List β}:∀ {A:List Nat},(∀ x∈A,H x=K x)→A.flatMap H=A.flatMap K
 | [],_=>rfl
 | x::A,h=>by
  rw [List.flatMap_cons,List.flatMap_cons,h x (List.mem_cons_self ..),z4F fun y hy=>h y (List.mem_cons_of_mem _ hy)]
theorem z5i {β : Type} (q:Nat→Bool) (H:Nat→List β):∀ A:List Nat,(A.filter q).flatMap H=A.flatMap fun x=>bif q x then H x else []
 | []=>rfl
 | x::A=>by
  rw [List.flatMap_cons]
  cases hq:q x with
  | true=>rw [List.filter_cons_of_pos hq,List.flatMap_cons,z5i q H A];rfl
  | false=>rw [List.filter_cons_of_neg (by rw [hq];decide),z5i q H A];rfl
def lfL (n:Nat) (row:List Nat):List Nat:=(List.range n).filter fun i=>!row.contains i
theorem zf3 {n:Nat} {row:List Nat} {e:Nat}:(lfL n row).filter (fun x=>!(x==e))=lfL n (e::row):=by
 unfold lfL
 rw [List.filter_filter]
 congr 1
 funext i
 rw [List.contains_cons]
 cases (i==e) <;> cases row.contains i <;> rfl
theorem zij {n:Nat} {row:List Nat}:(lfL n row).Nodup:=List.nodup_range.sublist List.filter_sublist
theorem znn {A:List Nat} {g:Nat→Nat} {i:Nat} (hi:i<A.length):zU (A.map g) i=g (zU A i):=by
 unfold zU
 rw [zt (show i<(A.map g).length by rw [List.length_map];exact hi),List.getElem_map,zt hi]
theorem zcv {g:Nat→Nat}:∀ {A:List Nat} {i:Nat},(A.map g).eraseIdx i=(A.eraseIdx i).map g
 | [],_=>by simp
 | a::A,0=>rfl
 | a::A,i+1=>by
  show g a::(A.map g).eraseIdx i=g a::(A.eraseIdx i).map g
  rw [zcv]
theorem zbZ {h:Hp} (n:OkH h) {l:List Sht} {g:Nat→Nat} (hg:∀ i,i<l.length→zi l i=zi h.st (g i)) (hinj:∀ i k,i<l.length→k<l.length→i≠k→g i≠g k) (hpp:∀ i k,i<l.length→k<l.length→(zi l i).paper=(zi l k).paper) :
  ∀ f (row:List Nat),f+row.length=l.length→(∀ i∈row,i<l.length)→zfq h l row→(lfL l.length row).length=f →
   z9l h f (row.map g).reverse ((lfL l.length row).map g)=((z4O h l f row).filter fun x=>zbt h (zQ l x)).map fun x=>(x.map g).reverse
 | 0,row,hn,hlt,hc,_=>by
  have ht:=zhk hc
  show (bif zox h (row.map g).reverse then [] else [(row.map g).reverse])=([row].filter _).map _
  have he:zox h (row.map g).reverse = !zrF h l row:=by
   cases row with
   | nil=>rfl
   | cons i t =>
    have hi:=hlt i (List.mem_cons_self ..)
    have hl:zaK ((i::t).map g).reverse=g i:=by
     unfold zaK zU
     rw [List.map_cons,List.reverse_cons,List.getD_eq_getElem?_getD,List.length_append,List.getElem?_append_right (by simp)]
     simp
    have hz:Nat.beq ((i::t).map g).reverse.length 0=false:=ze2 (by rw [List.length_reverse,List.length_map];exact Nat.succ_ne_zero _)
    unfold zox
    rw [hz,hl,cond_false,zmG n,←hg i hi];rfl
  rw [he,←ht]
  cases hb:zbt h (zQ l row) with
  | true=>rw [List.filter_cons,if_pos hb];rfl
  | false=>rw [List.filter_cons,if_neg (by rw [hb];decide)];rfl
 | f+1,row,hn,hlt,hc,hf=>by
  have hA:=zij (n:=l.length) (row:=row)
  have hAm:∀ e∈lfL l.length row,e<l.length∧row.contains e=false:=fun e he=>by
   obtain ⟨h1,h2⟩:=List.mem_filter.1 he
   exact ⟨List.mem_range.1 h1,by simpa using h2⟩
  -- the reference's side,element by element
  have e1:z9l h (f+1) (row.map g).reverse ((lfL l.length row).map g)=(lfL l.length row).flatMap fun e=>bif zmh h (row.map g).reverse (g e) then z9l h f ((e::row).map g).reverse ((lfL l.length (e::row)).map g) else []:=by
   rw [←zl5]
   show (List.range ((lfL l.length row).map g).length).flatMap _=_
   rw [List.length_map]
   refine z4F fun i hi=>?_
   have hi:=List.mem_range.1 hi
   rw [znn hi,←zf3,←z7d hA hi,List.map_cons,List.reverse_cons]
   congr 2
   rw [zcv]
  have e2:z4O h l (f+1) row=(lfL l.length row).flatMap fun e=>bif okR h l row e then z4O h l f (e::row) else []:=by
   unfold lfL
   rw [z5i]
   refine z4F fun i hi=>?_
   cases hcn:row.contains i with
   | true=>rw [z8s hcn];rfl
   | false=>rfl
  rw [e1,e2,List.filter_flatMap,List.map_flatMap]
  refine z4F fun e he=>?_
  obtain ⟨h1,h2⟩:=hAm e he
  have hcan:zmh h (row.map g).reverse (g e)=okR h l row e:=by
   cases row with
   | nil =>
    show (!zoo h (zi h.st (g e)))=(frS h (zi l e).id==0)
    rw [znR n,←hg e h1,Bool.not_not]
   | cons j t =>
    have hj:=hlt j (List.mem_cons_self ..)
    have hl:zaK ((j::t).map g).reverse=g j:=by
     unfold zaK zU
     rw [List.map_cons,List.reverse_cons,List.getD_eq_getElem?_getD,List.length_append,List.getElem?_append_right (by simp)]
     simp
    have hje:j≠e:=fun x=>by
     rw [x,List.contains_cons,beq_self_eq_true] at h2;cases h2
    rw [z4v h2,zrX (m:=t.length) (by rw [List.length_reverse,List.length_map];rfl),hl,←hg j hj,←hg e h1,zpp n (hinj j e hj h1 hje) (hpp j e hj h1)]
  rw [hcan]
  cases hok:okR h l row e with
  | false=>rfl
  | true =>
   rw [cond_true,cond_true]
   refine zbZ n hg hinj hpp f (e::row) (by show f+(row.length+1)=_;omega) (fun i hi=>?_) (zgo hc hok) ?_
   ·rcases List.mem_cons.1 hi with rfl | hi
    ·exact h1
    ·exact hlt i hi
   ·rw [←zf3]
    obtain ⟨k,hk,ek⟩:=z0y (d:=0) he
    have:=z7d hA hk
    rw [show zU (lfL l.length row) k=e from ek] at this
    rw [←this,List.length_eraseIdx_of_lt hk];omega
theorem zhV {h:Hp} {R:List (List Nat)}:∀ k,k≤R.length→zjP h R k=((R.take k).filter fun o=>y8 (zfS h o) 12==0).map (zfV h)
 | 0,_=>by simp [zjP]
 | k+1,hk=>by
  have ih:=zhV (h:=h) (R:=R) k (by omega)
  have e:R.take (k+1)=R.take k++[zjR R k]:=by
   rw [List.take_add_one]
   unfold zjR
   rw [List.getD_eq_getElem?_getD,List.getElem?_eq_getElem (by omega)];rfl
  rw [e,List.filter_append,List.map_append,←ih]
  show (bif y8 (zfS h (zjR R k)) 12==0 then zjP h R k++[zfV h (zjR R k)] else zjP h R k)=_
  cases hb:y8 (zfS h (zjR R k)) 12==0 with
  | true=>rw [List.filter_cons,if_pos hb];rfl
  | false=>rw [List.filter_cons,if_neg (by rw [hb];decide)];simp
theorem zn1 {h:Hp} (n:OkH h) (p:Int):zn2 h p=(zu h p).map (zT h p):=by
 have hb:=z4z (l:=h.st) (p:=p)
 have hlen:(z4N h.st p).length=(zJ h.st p).length:=by rw [←hb,List.length_map]
 have hg:∀ i,i<(zJ h.st p).length→zi (zJ h.st p) i=zi h.st (zU (z4N h.st p) i):=fun i hi=>by
  have hi2:i<(z4N h.st p).length:=by omega
  rw [←hb]
  exact zhy (h:=h) hi2
 have hnd:(z4N h.st p).Nodup:=(z8z (l:=h.st) (p:=p) h.st.length).imp fun h=>Nat.ne_of_lt h
 have hinj:∀ i k,i<(zJ h.st p).length→k<(zJ h.st p).length→i≠k→zU (z4N h.st p) i≠zU (z4N h.st p) k:=fun i k hi hk hne e=>hne (zkJ hnd (by omega) (by omega) e)
 have hpap:∀ i,i<(zJ h.st p).length→(zi (zJ h.st p) i).paper=p:=fun i hi=>by
  have h1:zi (zJ h.st p) i∈zJ h.st p:=z09 hi
  exact eq_of_beq (List.mem_filter.1 h1).2
 have hl0:lfL (zJ h.st p).length []=List.range (zJ h.st p).length:=List.filter_eq_self.2 fun _ _=>rfl
 have hmap:(List.range (zJ h.st p).length).map (zU (z4N h.st p))=z4N h.st p:=by
  refine List.ext_getElem (by rw [List.length_map,List.length_range,hlen]) fun k h1 h2=>?_
  rw [List.getElem_map,List.getElem_range]
  exact zt h2
 have key:=zbZ n hg hinj (fun i k hi hk=>by rw [hpap i hi,hpap k hk]) (zJ h.st p).length [] rfl (fun i hi=>by cases hi) (fun k hk=>absurd hk (Nat.not_lt_zero _)) (by rw [hl0,List.length_range])
 rw [hl0,hmap] at key
 have hruns:zhC h p=((z7s h (zJ h.st p)).filter fun x=>zbt h (zQ (zJ h.st p) x)).map fun x=>(x.map (zU (z4N h.st p))).reverse:=by
  unfold zhC
  rw [hlen];exact key
 unfold zn2
 rw [zhV _ (ym _),List.take_length,hruns,List.filter_map,List.map_map,List.filter_filter]
 have hsh:∀ x∈z7s h (zJ h.st p),zfS h (x.map (zU (z4N h.st p))).reverse=zQ (zJ h.st p) x:=fun x hx=>by
  have hm:=zeC hx
  unfold zfS zQ
  rw [←List.map_reverse,List.map_map]
  refine List.map_congr_left fun i hi=>?_
  exact (hg i (hm i (List.mem_reverse.1 hi))).symm
 unfold zu
 have hf:(z7s h (zJ h.st p)).filter (fun a=>((fun o=>y8 (zfS h o) 12==0) ∘ fun x=>(x.map (zU (z4N h.st p))).reverse) a&&zbt h (zQ (zJ h.st p) a))=(z7s h (zJ h.st p)).filter (zck h (zJ h.st p)):=by
  refine List.filter_congr fun x hx=>?_
  show ((y8 (zfS h (x.map (zU (z4N h.st p))).reverse) 12==0)&&zbt h (zQ (zJ h.st p) x))=(zbt h (zQ (zJ h.st p) x)&&(y8 (zQ (zJ h.st p) x) 12==0))
  rw [hsh x hx,Bool.and_comm]
 rw [hf]
 refine List.map_congr_left fun x hx=>?_
 show zfV h (x.map (zU (z4N h.st p))).reverse=zT h p x
 unfold zfV zT
 rw [hsh x (List.mem_filter.1 hx).1]
end
section
variable {r:Rm}
theorem zkl {h:Hp} (n:OkH h) (p:Int):(zn2 h p).length=(zu h p).length:=by rw [zn1 n,List.length_map]
theorem zeL {h:Hp} (n:OkH h) (p:Int):(zu h p).length≤5040:=by
 rw [←zkl n]
 exact yn (zeN _) (zkj n p)
noncomputable def z7u (h:Hp) (p:Int):Int:=if ppE h p=0 then (if 0<(zu h p).length then 0 else 55) else ppE h p
noncomputable def zq9 (h:Hp) (p:Int):List Int:=if ppE h p=0 then y5 h p 0 else []
theorem zax {h:Hp} {p:Int} (e:¬ ppE h p=0):z7u h p=ppE h p∧zq9 h p=[]:=⟨if_neg e,if_neg e⟩
theorem zlB {h:Hp} {p:Int} (hz:SzH h):VP (sE r) 39 [.agg ((eHp h).map .p),iv p] (.tup [.p (eL (zq9 h p)),iv (z7u h p)]):=by
 have hc:=z2o (r:=r) (p:=p) hz
 rcases z4r h p with ⟨hO,e⟩ | e
 rotate_left
 ·rw [(zax (zau e)).1,(zax (zau e)).2]
  refine VP.of (fn:=Tryz.f39) za (zD rfl) (by kernel_rfl) rfl rfl rfl ?_
  refine VSt.go za false [] 200 rfl AllP.n ?_
  refine zf (z00 0 (eHp h) rfl rfl) ?_
  refine VSt.pc rfl rfl rfl rfl rfl rfl rfl rfl (hc) ?_
  refine VSt.go za false [] 200 rfl AllP.n ?_
  refine VSt.cond rfl (fun _=>?_) (fun q=>absurd (q.symm.trans e) (by decide))
  refine VSt.go za false [] 200 rfl AllP.n ?_
  refine ⟨rfl,_,rfl,rfl,?_⟩
  exact AImp.tup ⟨AImp.nil,AImp.refl _,trivial⟩
 rw [show z7u h p=(if 0<(zu h p).length then 0 else 55) from if_pos e,show zq9 h p=y5 h p 0 from if_pos e]
 rw [e] at hc
 refine VP.of (fn:=Tryz.f39) za (zD rfl) (by kernel_rfl) rfl rfl rfl ?_
 refine VSt.go za false [] 200 rfl AllP.n ?_
 refine zf (z00 0 (eHp h) rfl rfl) ?_
 refine VSt.pc rfl rfl rfl rfl rfl rfl rfl rfl (hc) ?_
 refine VSt.go za false [] 200 rfl AllP.n ?_
 refine VSt.cond rfl (fun q=>absurd q (by decide)) (fun _=>?_)
 refine VSt.go za false [] 200 rfl AllP.n ?_
 refine VSt.pc rfl rfl rfl rfl rfl rfl rfl rfl ((zlW (p:=p) (m:=0) hz hO (by decide))) ?_
 refine VSt.go za false [] 200 rfl AllP.n ?_
 refine VSt.cond rfl (fun q=>?_) (fun q=>?_)
 ·have q:(!decide (0<(zu h p).length))=true:=q
  have q2:¬ 0<(zu h p).length:=by simpa using q
  rw [if_neg q2,zi9 (by omega)]
  refine VSt.go za false [] 200 rfl AllP.n ?_
  refine ⟨rfl,_,rfl,rfl,?_⟩
  exact AImp.tup ⟨AImp.nil,AImp.refl _,trivial⟩
 ·have q:(!decide (0<(zu h p).length))=false:=q
  have q2:0<(zu h p).length:=by simpa using q
  rw [if_pos q2]
  refine VSt.go za false [] 200 rfl AllP.n ?_
  exact EndsP.mk rfl rfl rfl rfl
noncomputable def zoq (h:Hp) (p n:Int):Int:=if ppE h p=0 then (bif wth n 0 999&&decide (n<Int.ofNat (zu h p).length) then 0 else 3) else ppE h p
noncomputable def zop (h:Hp) (p n:Int):List Int:=if ppE h p=0 then (bif wth n 0 999&&decide (n<Int.ofNat (zu h p).length) then y5 h p n.toNat else []) else []
theorem zeT {h:Hp} {p n:Int} (e:¬ ppE h p=0):zoq h p n=ppE h p∧zop h p n=[]:=⟨if_neg e,if_neg e⟩
theorem z8t {h:Hp} {p n:Int} (e:ppE h p=0) (g:(wth n 0 999&&decide (n<Int.ofNat (zu h p).length))=false):zoq h p n=3∧zop h p n=[]:=by
 unfold zoq zop;rw [if_pos e,if_pos e,g];exact ⟨rfl,rfl⟩
theorem zdq {h:Hp} {p n:Int} (e:ppE h p=0) (g:(wth n 0 999&&decide (n<Int.ofNat (zu h p).length))=true):zoq h p n=0∧zop h p n=y5 h p n.toNat:=by
 unfold zoq zop;rw [if_pos e,if_pos e,g];exact ⟨rfl,rfl⟩
theorem zmp {h:Hp} {p n:Int} (hz:SzH h):VP (sE r) 40 [.agg ((eHp h).map .p),iv p,iv n] (.tup [.p (eL (zop h p n)),iv (zoq h p n)]):=by
 have hc:=z2o (r:=r) (p:=p) hz
 rcases z4r h p with ⟨hO,e⟩ | e
 rotate_left
 ·rw [(zeT (zau e)).1,(zeT (zau e)).2]
  refine VP.of (fn:=Tryz.f40) za (zD rfl) (by kernel_rfl) rfl rfl rfl ?_
  refine VSt.go za false [] 200 rfl AllP.n ?_
  refine zf (z00 0 (eHp h) rfl rfl) ?_
  refine VSt.pc rfl rfl rfl rfl rfl rfl rfl rfl (hc) ?_
  refine VSt.go za false [] 200 rfl AllP.n ?_
  refine VSt.cond rfl (fun _=>?_) (fun q=>absurd (q.symm.trans e) (by decide))
  refine VSt.go za false [] 200 rfl AllP.n ?_
  refine ⟨rfl,_,rfl,rfl,?_⟩
  exact AImp.tup ⟨AImp.nil,AImp.refl _,trivial⟩
 rw [e] at hc
 cases hw:wth n 0 999 with
 | false =>
  have g:(wth n 0 999&&decide (n<Int.ofNat (zu h p).length))=false:=by rw [hw];rfl
  rw [(z8t e g).1,(z8t e g).2]
  refine VP.of (fn:=Tryz.f40) za (zD rfl) (by kernel_rfl) rfl rfl rfl ?_
  refine VSt.go za false [] 200 rfl AllP.n ?_
  refine zf (z00 0 (eHp h) rfl rfl) ?_
  refine VSt.pc rfl rfl rfl rfl rfl rfl rfl rfl (hc) ?_
  refine VSt.go za false [] 200 rfl AllP.n ?_
  refine VSt.cond rfl (fun q=>absurd q (by decide)) (fun _=>?_)
  refine VSt.go za false [] 200 rfl AllP.n ?_
  refine VSt.pc rfl rfl rfl rfl rfl rfl rfl rfl ((zgf n 0 999)) ?_
  refine VSt.go za false [] 200 rfl AllP.n ?_
  refine VSt.cond rfl (fun _=>?_) (fun q=>?_)
  ·refine VSt.go za false [] 200 rfl AllP.n ?_
   refine ⟨rfl,_,rfl,rfl,?_⟩
   exact AImp.tup ⟨AImp.nil,AImp.refl _,trivial⟩
  ·have q:(!wth n 0 999)=false:=q
   rw [hw] at q;cases q
 | true =>
  have hb:=wth_iff.1 hw
  obtain ⟨m,rfl⟩:∃ m:Nat,n=Int.ofNat m:=⟨n.toNat,by simp only [yl];omega⟩
  have hm:m≤999:=by have:=hb.2;simp only [yl] at this;omega
  have hdd:decide (Int.ofNat m<Int.ofNat (zu h p).length)=decide (m<(zu h p).length):=by
   rw [Bool.eq_iff_iff,decide_eq_true_iff,decide_eq_true_iff]
   simp only [yl];omega
  have hnth:=zlW (r:=r) (p:=p) (m:=m) hz hO (by omega)
  refine VP.of (fn:=Tryz.f40) za (zD rfl) (by kernel_rfl) rfl rfl rfl ?_
  refine VSt.go za false [] 200 rfl AllP.n ?_
  refine zf (z00 0 (eHp h) rfl rfl) ?_
  refine VSt.pc rfl rfl rfl rfl rfl rfl rfl rfl (hc) ?_
  refine VSt.go za false [] 200 rfl AllP.n ?_
  refine VSt.cond rfl (fun q=>absurd q (by decide)) (fun _=>?_)
  refine VSt.go za false [] 200 rfl AllP.n ?_
  refine VSt.pc rfl rfl rfl rfl rfl rfl rfl rfl ((zgf (Int.ofNat m) 0 999)) ?_
  refine VSt.go za false [] 200 rfl AllP.n ?_
  refine VSt.cond rfl (fun q=>?_) (fun _=>?_)
  ·have q:(!wth (Int.ofNat m) 0 999)=true:=q
   rw [hw] at q;cases q
  refine VSt.go za false [] 200 rfl AllP.n ?_
  refine VSt.pc rfl rfl rfl rfl rfl rfl rfl rfl (hnth) ?_
  refine VSt.go za false [] 200 rfl AllP.n ?_
  refine VSt.cond rfl (fun q=>?_) (fun q=>?_)
  ·have q:(!decide (m<(zu h p).length))=true:=q
   have g:(wth (Int.ofNat m) 0 999&&decide (Int.ofNat m<Int.ofNat (zu h p).length))=false:=by rw [hw,hdd];simpa using q
   rw [(z8t e g).1,(z8t e g).2]
   refine VSt.go za false [] 200 rfl AllP.n ?_
   refine ⟨rfl,_,rfl,rfl,?_⟩
   exact AImp.tup ⟨AImp.nil,AImp.refl _,trivial⟩
  ·have q:(!decide (m<(zu h p).length))=false:=q
   have g:(wth (Int.ofNat m) 0 999&&decide (Int.ofNat m<Int.ofNat (zu h p).length))=true:=by rw [hw,hdd];simpa using q
   rw [(zdq e g).1,(zdq e g).2]
   refine VSt.go za false [] 200 rfl AllP.n ?_
   exact EndsP.mk rfl rfl rfl rfl
noncomputable def zjU (h:Hp) (p:Int) (o:List Int):Int:=if ppE h p=0 then (bif zaM h p o then 0 else 52) else ppE h p
theorem z6f {h:Hp} {p:Int} {b:Bool} {o:List Int} (hz:SzH h) (ho:o.length<9223372036854775808):VP (sE r) 33 [.agg ((eHp h).map .p),iv p,.p (z1V b o)] (iv (zjU h p o)):=by
 have hc:=z2o (r:=r) (p:=p) hz
 rcases z4r h p with ⟨hO,e⟩ | e
 rotate_left
 ·rw [show zjU h p o=ppE h p from if_neg (zau e)]
  refine VP.of (fn:=Tryz.f33) za (zD rfl) (by kernel_rfl) rfl rfl rfl ?_
  refine VSt.go za false [] 200 rfl AllP.n ?_
  refine zf (z00 0 (eHp h) rfl rfl) ?_
  refine VSt.pc rfl rfl rfl rfl rfl rfl rfl rfl (hc) ?_
  refine VSt.go za false [] 200 rfl AllP.n ?_
  refine VSt.cond rfl (fun _=>?_) (fun q=>absurd (q.symm.trans e) (by decide))
  refine VSt.go za false [] 200 rfl AllP.n ?_
  exact EndsP.mk rfl rfl rfl rfl
 rw [show zjU h p o=(bif zaM h p o then 0 else 52) from if_pos e]
 rw [e] at hc
 refine VP.of (fn:=Tryz.f33) za (zD rfl) (by kernel_rfl) rfl rfl rfl ?_
 refine VSt.go za false [] 200 rfl AllP.n ?_
 refine zf (z00 0 (eHp h) rfl rfl) ?_
 refine VSt.pc rfl rfl rfl rfl rfl rfl rfl rfl (hc) ?_
 refine VSt.go za false [] 200 rfl AllP.n ?_
 refine VSt.cond rfl (fun q=>absurd q (by decide)) (fun _=>?_)
 refine VSt.go za false [] 200 rfl AllP.n ?_
 refine VSt.pc rfl rfl rfl rfl rfl rfl rfl rfl ((zgc (p:=p) (b:=b) (o:=o) hz hO ho)) ?_
 refine VSt.go za false [] 200 rfl AllP.n ?_
 refine VSt.cond rfl (fun q=>?_) (fun q=>?_)
 ·have q:(!zaM h p o)=true:=q
  rw [show zaM h p o=false by simpa using q]
  refine VSt.go za false [] 200 rfl AllP.n ?_
  exact EndsP.mk rfl rfl rfl rfl
 ·have q:(!zaM h p o)=false:=q
  rw [show zaM h p o=true by simpa using q]
  refine VSt.go za false [] 200 rfl AllP.n ?_
  exact EndsP.mk rfl rfl rfl rfl
def ixI (h:Hp) (id:Int):Int:=z7c h.st fun s=>s.id==id
def zs4 (h:Hp) (o:List Int) (k:Nat):List Int:=(o.take k).map (ixI h)
def zrz (l:List Int) (k:Nat):Int:=l.getD k 0
def g1 (h:Hp) (p:Int) (o:List Int) (i:Nat):Bool:=(zrY h.st p).contains (zrz o i) && !(zs4 h o i).contains (ixI h (zrz o i))
def zs1 (h:Hp) (by_:List Nat):Nat→Bool
 | 0=>zoo h (zi h.st (zU by_ 0))
 | m+1=>!zhE h (zU by_ m) (zU by_ (m+1)) (zi h.st (zU by_ m)) (zi h.st (zU by_ (m+1)))
def zrZ (h:Hp) (by_:List Nat) (k:Nat):Bool:=Nat.beq (k+1) by_.length&&zoW h (zi h.st (zU by_ k))
def g2 (h:Hp) (by_:List Nat) (k:Nat):Bool:=!(zs1 h by_ k||zrZ h by_ k)
theorem zdO {h:Hp} {l:List Sht}:∀ f {row0 row:List Nat},row∈z4O h l f row0→row.length=f+row0.length
 | 0,row0,row,hm=>by
  have hm:row∈[row0]:=hm
  rw [List.mem_singleton.1 hm,Nat.zero_add]
 | f+1,row0,row,hm=>by
  obtain ⟨i,_,hx⟩:=List.mem_flatMap.1 hm
  cases hk:okR h l row0 i with
  | false=>rw [hk] at hx;cases hx
  | true =>
   rw [hk] at hx
   have:=zdO f hx
   rw [List.length_cons] at this
   omega
theorem zkK {h:Hp} (hO:OkH h) {p:Int} {m:Nat}:(y5 h p m).length<9223372036854775808:=by
 cases e:(zu h p)[m]? with
 | none=>unfold y5;rw [e];show ([]:List Int).length<9223372036854775808;decide
 | some row =>
  rw [z5e e]
  unfold zT
  rw [List.length_map,z0x,zdO _ (List.mem_filter.1 (List.mem_of_getElem? e)).1]
  have:=z3G hO p
  show (zJ h.st p).length+0<_
  omega
theorem zfC {E:Env} {f:FuncId} (hk:z2E E f []=true):VP E f [] (bv true) :=
 ⟨rfl,fun S Z j vs hS hv hl=>by
  cases hv
  exact ⟨1,.bool true,S,fun m hm=>by
   obtain ⟨k,rfl,_⟩:=zh hm
   show bf (z2E E f []) _ _=_
   rw [hk];rfl,bv true,[],Z,j,hS,.p (.bool true),Ex.refl _ _ _,hl,Stay.refl _ _,rfl,rfl⟩⟩
def zpA (M:List Nat) (a:Nat):Bool:=M.all fun k=>!(a &&& k==0)
def stepG (m:Nat):AV:=.fn 135 [] [.ref 2 0,.p (.fp [.int .i64 (Int.ofNat m)] 0),.ref 1 0,.ref 4 0]
def lsV (n:Nat):Nat→AV
 | 0=>.p (.lst 3 true 0 fun _=>[])
 | c+1=>.sl 5 1 0 n (c+1) 0
abbrev s4 (s:List Nat):List Nat:=0::1::2::4::s
theorem zs9 {E:Env} {F:VK} {L:VS} {tb:Tab} {c:Call} {t elem esz n k:Nat} {sz0:Nat} {ag0:Bool} {zs0:List PV} (hT:zM E tb=true) (hc:c.callee = .builtin .len) (ht:c.argTypes.toList=[t]) (hi0:z3O tb t=some ⟨sz0,ag0,.slice elem esz,zs0⟩) (ha:avs F c.args.toList=some [lsV n k]) (h0:k=0→n=0):PureA E F L (.call c) (nv n):=fun T S Z j hS hF=>by
 refine zbp (L:=L) (obs:=[]) hT ?_ hS hF
 unfold zel
 rw [hc,ht,ha]
 show zoE tb L t (lsV n k)=_
 unfold zoE
 rw [hi0]
 cases k with
 | zero=>rw [h0 rfl];rfl
 | succ k=>rfl
section
variable {E:Env} {N:Nat} {st:List Nat} {rd:Option Nat} {Q:zK} {F:VK} {L:VS}
end
end
section
theorem zqV {B:List Nat} {a:Nat} (hB:∀ w∈B,w<4096) (h:zpA B a=true):zpA B 4095=true:=by
 unfold zpA at h ⊢
 rw [List.all_eq_true] at h ⊢
 intro w hw
 have h1:=h w hw
 have h2:=hB w hw
 rw [show (4095:Nat)=2 ^ 12 - 1 from rfl,Nat.and_comm,Nat.and_two_pow_sub_one_eq_mod,Nat.mod_eq_of_lt h2]
 cases w with
 | zero=>rw [Nat.and_zero] at h1;exact h1
 | succ w=>rfl
end
section
variable {r:Rm}
structure OkC (l:List Int) (k:Nat):Prop where
 lo:0≤l.getD k 0
 hi:l.getD k 0≤11
 up:0<k→l.getD (k - 1) 0<l.getD k 0
end
section
structure Raw where
 sh:List (Int×Int×Int)
 shB:Bool
 wo:List (Int×Int)
 woB:Bool
 sw:List Int
 swB:Bool
 ids:List Int
 idB:Bool
def zV (x m:Int):Int:=(x.tmod m+m).tmod m
theorem z19 {x m:Int} (h:0<m):0≤zV x m∧zV x m<m:=by
 have h1:=Int.lt_tmod_of_pos x h
 have h2:=Int.tmod_lt_of_pos x h
 unfold zV
 exact ⟨Int.tmod_nonneg _ (by omega),Int.tmod_lt_of_pos _ h⟩
def z7F (x:Int) (k:Nat):Nat:=(BitVec.ofInt 64 x).toNat &&& k
theorem zdz (x:Int) (k:Nat):z7F x k≤k:=Nat.and_le_right
def z5d (l:List Int) (i:Nat):Int:=if l.length=0 then 0 else l.getD (zV (Int.ofNat i) (Int.ofNat l.length)).toNat 0
def z5q (x:Int):Int:=1+zV x 30
def zaU (o:List Int):Nat→Int→Int
 | 0,x=>x
 | f+1,x=>bif o.contains x then zaU o f (z5q x) else x
def mdO (R:Raw):Nat→List Int
 | 0=>[]
 | k+1=>mdO R k++[zaU (mdO R k) 30 (1+zV (z5d R.ids k) 30)]
def nM (R:Raw):Nat:=min R.sh.length 6
def zC (R:Raw):List Int:=mdO R (nM R)
def shN (R:Raw) (i:Nat):Int×Int×Int:=R.sh.getD i (0,0,0)
def woN (R:Raw) (w:Nat):Int×Int:=R.wo.getD w (0,0)
def zcW (R:Raw) (i w:Nat):Bool:=decide (zV (woN R w).1 7≤Int.ofNat i)&&decide (Int.ofNat i≤zV (woN R w).1 7+zV (woN R w).2 4)
def z6Q (R:Raw) (i:Nat):Nat→Nat
 | 0=>0
 | w+1=>bif zcW R i w then z6Q R i w ||| 1 <<< w else z6Q R i w
theorem za4 (R:Raw) (i:Nat):∀ w,z6Q R i w<2 ^ w
 | 0=>Nat.one_pos
 | w+1=>by
  have ih:=za4 R i w
  have h1:z6Q R i w<2 ^ (w+1):=Nat.lt_trans ih (Nat.pow_lt_pow_right (by decide) (Nat.lt_succ_self w))
  show (bif zcW R i w then z6Q R i w ||| 1 <<< w else z6Q R i w)<_
  cases zcW R i w with
  | true=>exact Nat.or_lt_two_pow h1 (by rw [Nat.one_shiftLeft];exact Nat.pow_lt_pow_right (by decide) (Nat.lt_succ_self w))
  | false=>exact h1
def nW (R:Raw):Nat:=min R.wo.length 12
def zpE (R:Raw) (i:Nat):Int:=bif z7F (shN R i).2.1 1==0 then 1+zV (shN R i).1 5 else 0
def zpN (R:Raw) (i:Nat):Int:=bif z7F (shN R i).2.1 2==0 then (if i+1<nM R then 1+zV (shN R (i+1)).1 5 else 0) else 0
def zhe (R:Raw) (i:Nat):Nat:=z7F (shN R i).2.2 4095
def zjS (R:Raw) (i:Nat):Nat:=z6Q R i (nW R) ^^^ (z6Q R i (nW R) &&& zhe R i)
def z5x (R:Raw) (i:Nat):Sht:=⟨(zC R).getD i 0,3,zpE R i,zpN R i,Int.ofNat (zjS R i),Int.ofNat (zhe R i)⟩
def zZ (R:Raw) (id:Nat):Int:=z7c (zC R) fun x=>x==Int.ofNat id
def zP (R:Raw):Nat→List Sht
 | 0=>[]
 | j+1=>bif decide (zZ R (j+1)<0) then zP R j else zP R j++[z5x R (zZ R (j+1)).toNat]
def zex (R:Raw) (id:Nat):Bool:=decide ((zZ R id).toNat+1<nM R)&&R.sw.contains (zZ R id)
def zS (R:Raw):Nat→List Sew
 | 0=>[]
 | j+1=>bif decide (zZ R (j+1)<0) then zS R j else bif zex R (j+1) then zS R j++[⟨Int.ofNat (j+1),(zC R).getD ((zZ R (j+1)).toNat+1) 0⟩] else zS R j
def mdH (R:Raw):Hp:=⟨zP R 30,(zP R 30).isEmpty,zS R 30,(zS R 30).isEmpty⟩
theorem z3y {α : Type} [BEq α] [LawfulBEq α]:∀ {l m:List α},l.Nodup→(∀ x,x∈l→x∈m)→l.length≤m.length
 | [],_,_,_=>yu _
 | a::l,m,h,hs=>by
  rw [List.nodup_cons] at h
  have ha:=hs a List.mem_cons_self
  have:=z3y (m:=m.erase a) h.2 fun x hx=>by
   have hne:x≠a:=fun e=>h.1 (by rw [←e];exact hx)
   exact (List.mem_erase_of_ne hne).2 (hs x (List.mem_cons_of_mem _ hx))
  rw [List.length_erase_of_mem ha] at this
  have:0<m.length:=List.length_pos_of_mem ha
  rw [List.length_cons];omega
theorem zcm {o:List Int}:∀ f x,zaU o f x ∉ o∨∀ i,i<f→Nat.repeat z5q i x∈o
 | 0,x=>.inr fun i hi=>absurd hi (Nat.not_lt_zero i)
 | f+1,x=>by
  show (bif o.contains x then zaU o f (z5q x) else x) ∉ o∨_
  cases hc:o.contains x with
  | false =>
   left
   show x ∉ o
   intro h
   rw [List.contains_iff_mem.2 h] at hc;cases hc
  | true =>
   rcases zcm (o:=o) f (z5q x) with h | h
   ·exact .inl h
   ·refine .inr fun i hi=>?_
    cases i with
    | zero=>exact List.contains_iff_mem.1 hc
    | succ i =>
     have:=h i (by omega)
     have e:∀ i,Nat.repeat z5q i (z5q x)=Nat.repeat z5q (i+1) x:=fun i=>by
      induction i with
      | zero=>rfl
      | succ i ih=>show z5q (Nat.repeat z5q i (z5q x))=z5q (Nat.repeat z5q (i+1) x);rw [ih]
     rw [←e];exact this
theorem zlV {x:Int} (h1:1≤x) (h2:x≤30):z5q x=if x=30 then 1 else x+1:=by
 unfold z5q zV
 obtain ⟨n,rfl⟩:∃ n:Nat,x=Int.ofNat n:=⟨x.toNat,by simp only [yl];omega⟩
 simp only [yl] at *
 have e1:((n:Int).tmod 30)=(n:Int) % 30:=Int.tmod_eq_emod_of_nonneg (by omega)
 rw [e1,Int.tmod_eq_emod_of_nonneg (by omega)]
 split <;> omega
theorem zhG {x:Int} (h1:1≤x) (h2:x≤30):∀ i,i<30→Nat.repeat z5q i x=if x+i≤30 then x+i else x+i - 30
 | 0,_=>by rw [if_pos (by omega)];show x=_;omega
 | i+1,hi=>by
  have ih:=zhG h1 h2 i (by omega)
  show z5q (Nat.repeat z5q i x)=_
  rw [ih]
  split
  ·rw [zlV (by omega) (by omega)]
   split <;> split <;> omega
  ·rw [zlV (by omega) (by omega)]
   split <;> split <;> omega
theorem ziS {o:List Int} {x:Int} (ho:o.length<30) (h1:1≤x) (h2:x≤30):zaU o 30 x ∉ o:=by
 rcases zcm (o:=o) 30 x with h | h
 ·exact h
 ·exfalso
  have hn:((List.range 30).map fun i=>Nat.repeat z5q i x).Nodup:=by
   rw [List.nodup_iff_pairwise_ne,List.pairwise_map]
   refine (List.pairwise_lt_range (n:=30)).imp_of_mem fun {a b} ha hb hab=>?_
   have ha:=List.mem_range.1 ha
   have hb:=List.mem_range.1 hb
   rw [zhG h1 h2 a ha,zhG h1 h2 b hb]
   split <;> split <;> omega
  have:=z3y hn fun y hy=>by
   obtain ⟨i,hi,rfl⟩:=List.mem_map.1 hy
   exact h i (List.mem_range.1 hi)
  rw [List.length_map,List.length_range] at this
  omega
theorem ziR {o:List Int}:∀ f {x:Int},1≤x→x≤30→1≤zaU o f x∧zaU o f x≤30
 | 0,x,h1,h2=>⟨h1,h2⟩
 | f+1,x,h1,h2=>by
  show 1≤(bif o.contains x then zaU o f (z5q x) else x)∧(bif o.contains x then zaU o f (z5q x) else x)≤30
  cases o.contains x with
  | false=>exact ⟨h1,h2⟩
  | true =>
   have:=z19 (x:=x) (m:=30) (by decide)
   exact ziR (o:=o) f (x:=z5q x) (by unfold z5q;omega) (by unfold z5q;omega)
theorem zaE (R:Raw):∀ k,(mdO R k).length=k
 | 0=>rfl
 | k+1=>by show (mdO R k++[_]).length=_;rw [List.length_append,zaE R k];rfl
theorem zie (R:Raw):∀ k,∀ x∈mdO R k,1≤x∧x≤30
 | 0,x,h=>by cases h
 | k+1,x,h=>by
  rcases List.mem_append.1 (show x∈mdO R k++[_] from h) with h | h
  ·exact zie R k x h
  ·rw [List.mem_singleton.1 h]
   have:=z19 (x:=z5d R.ids k) (m:=30) (by decide)
   exact ziR 30 (by omega) (by omega)
theorem zc1 (R:Raw):∀ k,k<30→(mdO R k).Nodup
 | 0,_=>List.nodup_nil
 | k+1,hk=>by
  show (mdO R k++[_]).Nodup
  rw [List.nodup_append]
  refine ⟨zc1 R k (by omega),List.nodup_cons.2 ⟨List.not_mem_nil,List.nodup_nil⟩,fun a ha b hb=>?_⟩
  have:=z19 (x:=z5d R.ids k) (m:=30) (by decide)
  rw [List.mem_singleton.1 hb]
  intro e
  exact ziS (o:=mdO R k) (x:=1+zV (z5d R.ids k) 30) (by rw [zaE];omega) (by omega) (by omega) (e ▸ ha)
theorem zkN (R:Raw):nM R≤6:=Nat.min_le_right _ _
theorem z1u (R:Raw):(zC R).length=nM R:=zaE R _
theorem zhU (R:Raw):(zC R).Nodup:=zc1 R _ (by have:=zkN R;omega)
theorem zhT (R:Raw) {x:Int} (h:x∈zC R):1≤x∧x≤30:=zie R _ x h
theorem z3U (R:Raw) (id:Nat):(zZ R id = -1∧Int.ofNat id ∉ zC R)∨∃ k,zZ R id=Int.ofNat k∧k<nM R∧(zC R).getD k 0=Int.ofNat id:=by
 unfold zZ
 rcases z4D (zC R) (fun x=>x==Int.ofNat id) with h | ⟨k,h⟩
 ·refine .inl ⟨h,fun hm=>?_⟩
  have h2:=zaP h
  rw [←h2] at hm
  have:=(List.mem_filter.1 hm).2
  rw [beq_self_eq_true] at this;cases this
 ·obtain ⟨h1,h2,_⟩:=z4C h
  rw [z1u] at h1
  exact .inr ⟨k,h,h1,eq_of_beq h2⟩
theorem z6p {R:Raw}:∀ j {s:Sht},s∈zP R j→∃ i k,0<i∧i≤j∧zZ R i=Int.ofNat k∧k<nM R∧(zC R).getD k 0=Int.ofNat i∧s=z5x R k
 | 0,s,h=>by cases h
 | j+1,s,h=>by
  have h:s∈(bif decide (zZ R (j+1)<0) then zP R j else zP R j++[z5x R (zZ R (j+1)).toNat]):=h
  have hb:s∈zP R j→∃ i k,0<i∧i≤j+1∧zZ R i=Int.ofNat k∧k<nM R∧(zC R).getD k 0=Int.ofNat i∧s=z5x R k:=fun h=>by
   obtain ⟨i,k,h0,h1,h2⟩:=z6p j h
   exact ⟨i,k,h0,by omega,h2⟩
  rcases z3U R (j+1) with ⟨e,_⟩ | ⟨k,e,hk,h3⟩
  ·rw [e] at h
   exact hb h
  ·rw [e,decide_eq_false (by simp only [yl];omega),cond_false] at h
   rcases List.mem_append.1 h with h | h
   ·exact hb h
   ·exact ⟨j+1,k,by omega,by omega,e,hk,h3,List.mem_singleton.1 h⟩
theorem z3I (R:Raw) (k:Nat):(z5x R k).id=(zC R).getD k 0:=rfl
theorem zes {R:Raw} {j:Nat}:zP R (j+1)=zP R j∨∃ s,zP R (j+1)=zP R j++[s]∧s.id=Int.ofNat (j+1):=by
 show (bif decide (zZ R (j+1)<0) then zP R j else zP R j++[z5x R (zZ R (j+1)).toNat])=_∨_
 rcases z3U R (j+1) with ⟨e,_⟩ | ⟨k,e,hk,h3⟩
 ·rw [e];exact .inl rfl
 ·refine .inr ⟨z5x R k,?_,h3⟩
  show (bif decide (zZ R (j+1)<0) then zP R j else zP R j++[z5x R (zZ R (j+1)).toNat])=_
  rw [e,decide_eq_false (by simp only [yl];omega)];rfl
theorem zoR {R:Raw} (j:Nat) {s:Sht} (h:s∈zP R j):1≤s.id∧s.id≤Int.ofNat j:=by
 obtain ⟨i,k,h0,h1,_,_,h3,rfl⟩:=z6p j h
 rw [z3I,h3]
 simp only [yl];omega
theorem zhJ {α : Type} {p : α → α → Prop} {l:List α} {x : α} (h:l.Pairwise p) (hx:∀ y∈l,p y x):(l++[x]).Pairwise p:=by
 rw [List.pairwise_append]
 refine ⟨h,List.pairwise_singleton _ _,fun a ha b hb=>?_⟩
 rw [List.mem_singleton.1 hb];exact hx a ha
theorem zbv {R:Raw}:∀ j,(zP R j).Pairwise fun a b=>a.id<b.id
 | 0=>List.Pairwise.nil
 | j+1=>by
  rcases zes (R:=R) (j:=j) with h | ⟨s,h,hs⟩
  ·rw [h];exact zbv j
  ·rw [h]
   refine zhJ (zbv j) fun y hy=>?_
   have:=(zoR j hy).2
   rw [hs]
   simp only [yl] at *;omega
theorem zmK {R:Raw} {j i:Nat} (h0:0<i) (hj:i≤j) (h:Int.ofNat i∈zC R):∃ k,zZ R i=Int.ofNat k∧k<nM R∧(zC R).getD k 0=Int.ofNat i∧z5x R k∈zP R j:=by
 rcases z3U R i with ⟨_,e⟩ | ⟨k,e,hk,h3⟩
 ·exact absurd h e
 ·refine ⟨k,e,hk,h3,?_⟩
  induction j with
  | zero=>omega
  | succ j ih =>
   by_cases c:i=j+1
   ·subst c
    show _∈(bif decide (zZ R (j+1)<0) then zP R j else zP R j++[z5x R (zZ R (j+1)).toNat])
    rw [e,decide_eq_false (by simp only [yl];omega),cond_false]
    exact List.mem_append.2 (.inr (List.mem_singleton.2 rfl))
   ·have:=ih (by omega)
    rcases zes (R:=R) (j:=j) with g | ⟨s,g,_⟩
    ·rw [g];exact this
    ·rw [g];exact List.mem_append.2 (.inl this)
theorem z6s {R:Raw}:∀ j {x:Sew},x∈zS R j→∃ i k,0<i∧i≤j∧zZ R i=Int.ofNat k∧k+1<nM R∧(zC R).getD k 0=Int.ofNat i∧x.fro=Int.ofNat i∧x.too=(zC R).getD (k+1) 0
 | 0,x,h=>by cases h
 | j+1,x,h=>by
  have h:x∈(bif decide (zZ R (j+1)<0) then zS R j else bif zex R (j+1) then zS R j++[⟨Int.ofNat (j+1),(zC R).getD ((zZ R (j+1)).toNat+1) 0⟩] else zS R j):=h
  have hb:x∈zS R j→∃ i k,0<i∧i≤j+1∧zZ R i=Int.ofNat k∧k+1<nM R∧(zC R).getD k 0=Int.ofNat i∧x.fro=Int.ofNat i∧x.too=(zC R).getD (k+1) 0:=fun h=>by
   obtain ⟨i,k,h0,h1,h2⟩:=z6s j h
   exact ⟨i,k,h0,by omega,h2⟩
  rcases z3U R (j+1) with ⟨e,_⟩ | ⟨k,e,hk,h3⟩
  ·rw [e] at h
   exact hb h
  ·rw [e,decide_eq_false (by simp only [yl];omega),cond_false] at h
   cases hs:zex R (j+1) with
   | false=>rw [hs] at h;exact hb h
   | true =>
    rw [hs,cond_true] at h
    rcases List.mem_append.1 h with h | h
    ·exact hb h
    ·have h:=List.mem_singleton.1 h
     unfold zex at hs
     rw [e,yw,decide_eq_true_iff] at hs
     exact ⟨j+1,k,by omega,by omega,e,hs.1,h3,by rw [h],by rw [h];rfl⟩
theorem zke {R:Raw} {j:Nat}:zS R (j+1)=zS R j∨∃ x,zS R (j+1)=zS R j++[x]∧x.fro=Int.ofNat (j+1):=by
 show (bif decide (zZ R (j+1)<0) then zS R j else bif zex R (j+1) then zS R j++[⟨Int.ofNat (j+1),(zC R).getD ((zZ R (j+1)).toNat+1) 0⟩] else zS R j)=_∨∃ x,(bif decide (zZ R (j+1)<0) then zS R j else bif zex R (j+1) then zS R j++[⟨Int.ofNat (j+1),(zC R).getD ((zZ R (j+1)).toNat+1) 0⟩] else zS R j)=_∧_
 cases decide (zZ R (j+1)<0) with
 | true=>exact .inl rfl
 | false =>
  cases zex R (j+1) with
  | false=>exact .inl rfl
  | true=>exact .inr ⟨_,rfl,rfl⟩
theorem z6w {R:Raw} {a b:Nat} (ha:a<nM R) (hb:b<nM R) (e:(zC R).getD a 0=(zC R).getD b 0):a=b:=by
 rw [←z1u] at ha hb
 rw [zt ha,zt hb] at e
 exact (List.getElem_inj (zhU R)).1 e
theorem zew {R:Raw}:∀ j,(zS R j).Pairwise fun a b=>a.fro<b.fro∧a.too≠b.too
 | 0=>List.Pairwise.nil
 | j+1=>by
  rcases zke (R:=R) (j:=j) with h | ⟨x,h,hx⟩
  ·rw [h];exact zew j
  ·have hxm:x∈zS R (j+1):=by rw [h];exact List.mem_append.2 (.inr (List.mem_singleton.2 rfl))
   rw [h]
   refine zhJ (zew j) fun y hy=>?_
   obtain ⟨i,k,h0,h1,h2,h3,h4,h5,h6⟩:=z6s j hy
   obtain ⟨i',k',g0,g1,g2,g3,g4,g5,g6⟩:=z6s (j+1) hxm
   have hi:i'=j+1:=by rw [hx] at g5;exact (Int.ofNat.inj g5).symm
   refine ⟨by rw [h5,hx];simp only [yl];omega,fun e=>?_⟩
   rw [h6,g6] at e
   have:=z6w (by omega) (by omega) e
   have hk:k=k':=by omega
   rw [hk] at h4
   rw [h4] at g4
   have:=Int.ofNat.inj g4
   omega
theorem zai {R:Raw}:∀ j,(zS R j).length≤(zP R j).length
 | 0=>ym _
 | j+1=>by
  have ih:=zai (R:=R) j
  show (bif decide (zZ R (j+1)<0) then zS R j else bif zex R (j+1) then zS R j++[⟨Int.ofNat (j+1),(zC R).getD ((zZ R (j+1)).toNat+1) 0⟩] else zS R j).length≤(bif decide (zZ R (j+1)<0) then zP R j else zP R j++[z5x R (zZ R (j+1)).toNat]).length
  cases decide (zZ R (j+1)<0) with
  | true=>exact ih
  | false =>
   rw [cond_false,cond_false,List.length_append]
   cases zex R (j+1) with
   | false=>exact yn ih (Nat.le_add_right _ _)
   | true=>rw [cond_true,List.length_append];exact Nat.add_le_add_right ih 1
theorem zet (R:Raw) (j:Nat):(zP R j).length≤6:=by
 have h1:((zP R j).map (·.id)).Nodup:=by
  rw [List.nodup_iff_pairwise_ne,List.pairwise_map]
  exact (zbv j).imp fun h=>Int.ne_of_lt h
 have h2:=z3y (m:=zC R) h1 fun y hy=>by
  obtain ⟨s,hs,rfl⟩:=List.mem_map.1 hy
  obtain ⟨i,k,_,_,_,hk,_,rfl⟩:=z6p j hs
  rw [z3I]
  exact z09 (by rw [z1u];exact hk)
 rw [List.length_map,z1u] at h2
 have:=zkN R
 omega
theorem znI (R:Raw) (i:Nat):zjS R i<4096:=by
 have h1:z6Q R i (nW R)<4096:=yo (za4 R i _) (Nat.pow_le_pow_right (n:=2) (by decide) (show nW R≤12 from Nat.min_le_right _ _))
 exact Nat.xor_lt_two_pow (n:=12) h1 (Nat.lt_of_le_of_lt Nat.and_le_left h1)
theorem zcM (m u:Nat):(m ^^^ (m &&& u)) &&& u=0:=by
 refine Nat.eq_of_testBit_eq fun i=>?_
 rw [Nat.testBit_and,Nat.testBit_xor,Nat.testBit_and,Nat.zero_testBit]
 cases m.testBit i <;> cases u.testBit i <;> rfl
theorem zbi {n lo hi:Int} (h1:lo≤n) (h2:n≤hi):wth n lo hi=true:=by
 unfold wth
 rw [yw,decide_eq_true_iff,decide_eq_true_iff];exact ⟨h1,h2⟩
theorem zed {b:Bool} {x:Int} (h:0≤x∧x≤5):wth (bif b then x else 0) 0 999=true:=by
 cases b with
 | true=>exact zbi h.1 (Int.le_trans h.2 (by decide))
 | false=>exact zbi (Int.le_refl 0) (show (0:Int)≤999 by decide)
theorem zoV {R:Raw} {k:Nat} (hk:k<nM R):OkS (z5x R k):=by
 have h1:=zhT R (z09 (d:=0) (show k<(zC R).length by rw [z1u];exact hk))
 have h2:=z19 (x:=(shN R k).1) (m:=5) (by decide)
 have h3:=z19 (x:=(shN R (k+1)).1) (m:=5) (by decide)
 have h4:=znI R k
 have h5:zhe R k≤4095:=zdz _ _
 refine ⟨zbi h1.1 (by show (zC R).getD k 0≤99;omega),(show wth 3 1 999=true by decide),zed (by omega),zed ?_,?_,?_,?_⟩
 ·split <;> omega
 ·exact zbi (by show 0≤Int.ofNat _;simp only [yl];omega) (by show Int.ofNat (zjS R k)≤4095;simp only [yl];omega)
 ·exact zbi (by show 0≤Int.ofNat _;simp only [yl];omega) (by show Int.ofNat (zhe R k)≤4095;simp only [yl];omega)
 ·show (!(Int.ofNat (zjS R k &&& zhe R k)==0))=false
  unfold zjS
  rw [zcM];rfl
theorem zeW {R:Raw} {k:Nat} (hk:k<nM R):∃ a,a<(zP R 30).length∧zi (zP R 30) a=z5x R k:=by
 have h1:=zhT R (z09 (d:=0) (show k<(zC R).length by rw [z1u];exact hk))
 obtain ⟨i,hi⟩:∃ i:Nat,(zC R).getD k 0=Int.ofNat i:=⟨((zC R).getD k 0).toNat,by simp only [yl];omega⟩
 have hm:Int.ofNat i∈zC R:=by rw [←hi];exact z09 (by rw [z1u];exact hk)
 rw [hi] at h1
 simp only [yl] at h1
 obtain ⟨k',_,hk',e,h⟩:=zmK (j:=30) (by omega) (by omega) hm
 have:k'=k:=z6w hk' hk (by rw [e,hi])
 subst this
 obtain ⟨a,ha,e⟩:=z0y (d:=default) h
 exact ⟨a,ha,e⟩
theorem zeF {α : Type} {p : α → α → Prop} {l:List α} {d : α} (h:l.Pairwise p) {i j:Nat} (hij:i<j) (hj:j<l.length):p (l.getD i d) (l.getD j d):=by
 rw [zt (show i<l.length by omega),zt hj]
 exact List.pairwise_iff_getElem.1 h i j (by omega) hj hij
theorem zkQ (R:Raw):OkH (mdH R):=by
 have hl:=zet R 30
 have hw:=zai (R:=R) 30
 refine ⟨by show (zP R 30).length≤24;omega,by show (zS R 30).length≤12;omega,fun i hi=>?_,fun i h0 hi=>?_,fun i hi=>?_,fun i hi=>?_,fun i h0 hi=>?_,fun i hi k hk=>?_⟩
 ·have hm:zi (zP R 30) i∈zP R 30:=z09 hi
  obtain ⟨_,k,_,_,_,hk,_,e⟩:=z6p 30 hm
  show OkS (zi (zP R 30) i)
  rw [e];exact zoV hk
 ·exact zeF (zbv (R:=R) 30) (show i - 1<i by omega) hi
 ·exact yn (List.length_filter_le _ _) (by show (zP R 30).length≤7;omega)
 ·have hm:zB (zS R 30) i∈zS R 30:=z09 hi
  obtain ⟨i',k,h0,h1,_,h3,h4,h5,h6⟩:=z6s 30 hm
  obtain ⟨a,ha,ea⟩:=zeW (R:=R) (k:=k) (by omega)
  obtain ⟨b,hb,eb⟩:=zeW (R:=R) (k:=k+1) h3
  refine ⟨a,b,ha,hb,?_,?_,fun e=>?_,?_⟩
  ·show (zi (zP R 30) a).id=(zB (zS R 30) i).fro
   rw [ea,h5,z3I,h4]
  ·show (zi (zP R 30) b).id=(zB (zS R 30) i).too
   rw [eb,h6,z3I]
  ·rw [e] at ea
   rw [ea] at eb
   have:=congrArg Sht.id eb
   rw [z3I,z3I] at this
   have:=z6w (by omega) (by omega) this
   omega
  ·show (zi (zP R 30) a).paper=(zi (zP R 30) b).paper
   rw [ea,eb];rfl
 ·exact (zeF (zew (R:=R) 30) (show i - 1<i by omega) hi).1
 ·exact (zeF (zew (R:=R) 30) hk hi).2
structure Alk (a b:Sht):Prop where
 id:b.id=a.id
 paper:b.paper=a.paper
 ok:OkS a→OkS b
theorem Alk.refl (a:Sht):Alk a a:=⟨rfl,rfl,fun o=>o⟩
theorem Alk.trans {a b c:Sht} (h:Alk a b) (k:Alk b c):Alk a c:=⟨k.id.trans h.id,k.paper.trans h.paper,fun o=>k.ok (h.ok o)⟩
theorem zqc {B:List Nat} (hB:∀ w∈B,w<4096) (h:0 ∉ B):zpA B 4095=true:=by
 unfold zpA
 rw [List.all_eq_true]
 intro w hw
 rw [show (4095:Nat)=2 ^ 12 - 1 from rfl,Nat.and_comm,Nat.and_two_pow_sub_one_eq_mod,Nat.mod_eq_of_lt (hB w hw)]
 cases w with
 | zero=>exact absurd hw h
 | succ w=>rfl
end
end Go.Proofs.YtdpipdniklognaaGreat
