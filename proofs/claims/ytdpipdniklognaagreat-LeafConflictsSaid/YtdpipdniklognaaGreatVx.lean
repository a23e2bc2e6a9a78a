/- The program's LeafConflicts returns true for all heaps, papers and lists of holes, valid or not, without an exception and without changing its arguments: a part of the proof. -/
import Derived.Test.YtdpipdniklognaaGreatVp
import Derived.Test.YtdpipdniklognaaGreatVd
import Derived.WalkKit
import Derived.Test.YtdpipdniklognaaGreatVe
set_option linter.all false
/- The table of this program's types. -/
set_option maxRecDepth 100000
namespace Go.Proofs.YtdpipdniklognaaGreat
noncomputable def tb:Tab:=[
 (3,⟨1,false,.int .i64,[.int .i64 (0)]⟩),
 (25,⟨2,true,.struct false [(0,1,false),(1,1,false)],[.lst 0 true 0 fun _=>[],.lst 0 true 0 fun _=>[]]⟩),
 (74,⟨6,true,.struct true [(0,1,false),(1,1,false),(2,1,false),(3,1,false),(4,1,false),(5,1,false)],[.int .i64 (0),.int .i64 (0),.int .i64 (0),.int .i64 (0),.int .i64 (0),.int .i64 (0)]⟩),
 (58,⟨2,true,.struct true [(0,1,false),(1,1,false)],[.int .i64 (0),.int .i64 (0)]⟩),
 (37,⟨1,false,.slice 3 1,[.lst 0 true 0 fun _=>[]]⟩),
 (22,⟨1,false,.slice 74 6,[.lst 0 true 0 fun _=>[]]⟩),
 (23,⟨1,false,.slice 58 2,[.lst 0 true 0 fun _=>[]]⟩),
 (28,⟨1,false,.int .i64,[.int .i64 (0)]⟩),
 (32,⟨2,true,.struct true [(0,1,false),(1,1,false)],[.int .i64 (0),.int .i64 (0)]⟩),
 (113,⟨1,false,.int .i64,[.int .i64 (0)]⟩),
 (66,⟨3,true,.arr 3 1 false,[.int .i64 (0),.int .i64 (0),.int .i64 (0)]⟩),
 (27,⟨5,true,.struct true [(0,1,false),(1,1,false),(2,1,false),(3,1,false),(4,1,false)],[.int .i64 (0),.int .i64 (0),.int .i64 (0),.int .i64 (0),.int .i64 (0)]⟩),
 (86,⟨1,false,.slice 37 1,[.lst 0 true 0 fun _=>[]]⟩),
 (51,⟨4,true,.struct false [(0,1,false),(1,1,false),(2,1,false),(3,1,false)],[.lst 0 true 0 fun _=>[],.lst 0 true 0 fun _=>[],.lst 0 true 0 fun _=>[],.lst 0 true 0 fun _=>[]]⟩),
 (185,⟨1,false,.int .u64,[.int .u64 (0)]⟩),
 (106,⟨1,false,.func,[.nilf]⟩),
 (159,⟨2,true,.struct false [(0,1,false),(1,1,false)],[.lst 0 true 0 fun _=>[],.int .i64 (0)]⟩),
 (4,⟨1,false,.bool,[.bool false]⟩),
 (52,⟨2,true,.arr 2 1 false,[.int .i64 (0),.int .i64 (0)]⟩),
 (149,⟨1,false,.int .u64,[.int .u64 (0)]⟩),
 (189,⟨1,false,.ptr,[.nilp]⟩),
 (108,⟨1,false,.mapA (.bool false),[.nilm]⟩),
 (116,⟨1,false,.slice 159 2,[.lst 0 true 0 fun _=>[]]⟩),
 (82,⟨1,false,.map,[.nilm]⟩),
 (49,⟨1,false,.slice 52 2,[.lst 0 true 0 fun _=>[]]⟩),
 (179,⟨1,false,.int .u64,[.int .u64 (0)]⟩),
 (177,⟨1,false,.int .u32,[.int .u32 (0)]⟩),
 (48,⟨1,false,.slice 66 3,[.lst 0 true 0 fun _=>[]]⟩),
 (5,⟨1,false,.int .u8,[.int .u8 (0)]⟩),
 (42,⟨1,false,.func,[.nilf]⟩),
 (119,⟨1,false,.func,[.nilf]⟩),
 (121,⟨1,false,.mapI,[.nilm]⟩),
 (125,⟨1,false,.func,[.nilf]⟩),
 (141,⟨1,false,.func,[.nilf]⟩),
 (146,⟨1,false,.func,[.nilf]⟩),
 (169,⟨1,false,.int .i64,[.int .i64 (0)]⟩),
 (157,⟨1,false,.slice 4 1,[.lst 0 true 0 fun _=>[]]⟩),
 (9,⟨1,false,.str,[.str ⟨#[]⟩]⟩),
 (155,⟨1,false,.func,[.nilf]⟩),
 (162,⟨1,false,.func,[.nilf]⟩)]
theorem za {r:Rm}:zL (sE r) tb=true:=by kernel_rfl
end Go.Proofs.YtdpipdniklognaaGreat
/- Loose sheets by value; what the walks of this layer use. -/
set_option maxRecDepth 100000
namespace Go.Proofs.YtdpipdniklognaaGreat
def wth (n lo hi:Int):Bool:=decide (lo≤n)&&decide (n≤hi)
theorem wth_iff {n lo hi:Int}:wth n lo hi=true ↔ lo≤n∧n≤hi:=by
 unfold wth;rw [Bool.and_eq_true,decide_eq_true_iff,decide_eq_true_iff]
theorem z0f {α : Type} {l:List α} {k:Nat} {d : α} (h:k<l.length):l.getD k d=l[k]:=by
 rw [List.getD_eq_getElem?_getD,List.getElem?_eq_getElem h];rfl
theorem z0J {α : Type} {l:List α} {k:Nat} {d : α} (h:k<l.length):l.getD k d∈l:=by
 rw [z0f h];exact List.getElem_mem h
theorem z0I {α : Type} {l:List α} {x d : α} (h:x∈l):∃ k,k<l.length∧l.getD k d=x:=by
 obtain ⟨k,hk,e⟩:=List.mem_iff_getElem.1 h
 exact ⟨k,hk,by rw [z0f hk];exact e⟩
def zoE (p:Nat→Bool) (n:Nat):Bool:=(List.range n).all p
theorem allB_iff {p:Nat→Bool} {n:Nat}:zoE p n=true ↔ ∀ k,k<n→p k=true:=by
 unfold zoE;rw [List.all_eq_true]
 exact ⟨fun h k hk=>h k (List.mem_range.2 hk),fun h k hk=>h k (List.mem_range.1 hk)⟩
theorem zaT {p:Nat→Bool} {n k:Nat} (hk:k<n) (h:p k=false):zoE p n=false:=by
 rw [←Bool.not_eq_true]
 intro h1
 rw [allB_iff.1 h1 k hk] at h;cases h
def z7z {α : Type} (l:List α) (p : α → Bool):Int:=match l.findIdx? p with
 | some k=>k
 | none=> -1
section
variable {α : Type} [Inhabited α]
theorem zn7 {l:List α} {k:Nat} (h:k<l.length):l.getD k default=l[k]:=by
 rw [List.getD_eq_getElem?_getD,List.getElem?_eq_getElem h];rfl
theorem z7y {l:List α} {k:Nat} {p : α → Bool} (hk:k<l.length) (h:p (l.getD k default)=true) (hb:∀ i,i<k→p (l.getD i default)=false):z7z l p=k:=by
 unfold z7z
 have:l.findIdx? p=some k:=by
  rw [List.findIdx?_eq_some_iff_getElem]
  refine ⟨hk,by rw [zn7 hk] at h;exact h,fun j hj=>?_⟩
  have:=hb j hj
  rw [zn7 (by omega)] at this
  simp [this]
 rw [this]
theorem z8y {l:List α} {p : α → Bool} (hb:∀ i,i<l.length→p (l.getD i default)=false):z7z l p = -1:=by
 unfold z7z
 have:l.findIdx? p=none:=by
  rw [List.findIdx?_eq_none_iff]
  intro x hx
  obtain ⟨k,hk,rfl⟩:=List.mem_iff_getElem.1 hx
  have:=hb k hk
  rwa [zn7 hk] at this
 rw [this]
theorem zfE {l:List α} {p : α → Bool} {k:Nat} (h:z7z l p=Int.ofNat k):k<l.length∧p (l.getD k default)=true∧∀ i,i<k→p (l.getD i default)=false:=by
 unfold z7z at h
 cases hf:l.findIdx? p with
 | none=>rw [hf] at h;exact absurd h (by intro h;cases h)
 | some i =>
  rw [hf] at h
  have:i=k:=Int.ofNat_inj.1 h
  subst this
  rw [List.findIdx?_eq_some_iff_getElem] at hf
  obtain ⟨h1,h2,h3⟩:=hf
  refine ⟨h1,by rw [zn7 h1];exact h2,fun j hj=>?_⟩
  rw [zn7 (by omega)]
  simpa using h3 j hj
omit [Inhabited α] in
theorem zk2 {l:List α} {p : α → Bool} (h:z7z l p = -1):l.filter (fun x=>!p x)=l:=by
 unfold z7z at h
 cases hf:l.findIdx? p with
 | some i=>rw [hf] at h;exact absurd h (by intro h;cases h)
 | none =>
  rw [List.findIdx?_eq_none_iff] at hf
  exact List.filter_eq_self.2 fun x hx=>by rw [hf x hx];rfl
omit [Inhabited α] in
theorem zfF (l:List α) (p : α → Bool):z7z l p = -1∨∃ k,z7z l p=Int.ofNat k:=by
 unfold z7z
 split
 ·exact .inr ⟨_,rfl⟩
 ·exact .inl rfl
theorem z2X (l:List α) {k:Nat} (h:k<l.length):l.take (k+1)=l.take k++[l.getD k default]:=by
 rw [List.take_add_one,zn7 h,List.getElem?_eq_getElem h];rfl
theorem z3j (l:List α) (q : α → Bool) {k:Nat} (h:k<l.length):(l.take (k+1)).filter q=bif q (l.getD k default) then (l.take k).filter q++[l.getD k default] else (l.take k).filter q:=by
 rw [z2X l h,List.filter_append]
 cases hq:q (l.getD k default) with
 | true=>rw [List.filter_cons_of_pos hq];rfl
 | false=>rw [List.filter_cons_of_neg (by rw [hq];decide)];simp
theorem z9j {l:List α} {p : α → Bool}:∀ {k:Nat},k≤l.length→(∀ i,i<k→p (l.getD i default)=false)→(l.take k).filter (fun x=>!p x)=l.take k
 | 0,_,_=>rfl
 | k+1,h,hp=>by
  rw [z3j l _ (by omega),z9j (by omega) (fun i hi=>hp i (by omega)),hp k (by omega),z2X l (by omega)];rfl
structure DelInv (l:List α) (p : α → Bool) (j i:Nat) (g:Nat→α):Prop where
 le:j≤l.length
 lt:i<j
 len:i=((l.take j).filter (fun x=>!p x)).length
 done:∀ q,q<i→g q=((l.take j).filter (fun x=>!p x)).getD q default
 rest:∀ q,j≤q→g q=l.getD q default
theorem DelInv.start {l:List α} {p : α → Bool} {k0:Nat} (h:k0<l.length∧p (l.getD k0 default)=true∧∀ i,i<k0→p (l.getD i default)=false):DelInv l p (k0+1) k0 (fun q=>l.getD q default):=by
 have e1:(l.take (k0+1)).filter (fun x=>!p x)=l.take k0:=by
  rw [z3j l _ h.1,h.2.1,z9j (by omega) h.2.2];rfl
 refine ⟨h.1,Nat.lt_succ_self _,?_,fun q hq=>?_,fun q _=>rfl⟩
 ·rw [e1,List.length_take];omega
 ·rw [e1]
  simp only [List.getD_eq_getElem?_getD]
  rw [List.getElem?_take,if_pos hq]
theorem DelInv.skip {l:List α} {p : α → Bool} {j i:Nat} {g:Nat→α} (h:DelInv l p j i g) (hj:j<l.length) (hp:p (l.getD j default)=true):DelInv l p (j+1) i g:=by
 have e1:(l.take (j+1)).filter (fun x=>!p x)=(l.take j).filter (fun x=>!p x):=by
  rw [z3j l _ hj,hp];rfl
 exact ⟨hj,Nat.lt_succ_of_lt h.lt,by rw [e1];exact h.len,fun q hq=>by rw [e1];exact h.done q hq,fun q h1=>h.rest q (by omega)⟩
theorem DelInv.keep {l:List α} {p : α → Bool} {j i:Nat} {g:Nat→α} (h:DelInv l p j i g) (hj:j<l.length) (hp:p (l.getD j default)=false):DelInv l p (j+1) (i+1) (fun q=>if q=i then g j else g q):=by
 have e1:(l.take (j+1)).filter (fun x=>!p x)=(l.take j).filter (fun x=>!p x)++[l.getD j default]:=by
  rw [z3j l _ hj,hp];rfl
 have hij:=h.lt
 refine ⟨hj,by omega,by rw [e1,List.length_append,←h.len];rfl,fun q hq=>?_,fun q h1=>?_⟩
 ·rw [e1]
  simp only [List.getD_eq_getElem?_getD]
  by_cases c:q=i
  ·subst c
   rw [if_pos rfl,List.getElem?_append_right (by rw [←h.len];exact Nat.le_refl _),←h.len,Nat.sub_self,h.rest j (Nat.le_refl _)];rfl
  ·rw [if_neg c,List.getElem?_append_left (by rw [←h.len];omega),h.done q (by omega),List.getD_eq_getElem?_getD]
 ·show (if q=i then _ else _)=_
  rw [if_neg (by omega),h.rest q (by omega)]
theorem DelInv.all {l:List α} {p : α → Bool} {i:Nat} {g:Nat→α} (h:DelInv l p l.length i g):i=(l.filter (fun x=>!p x)).length∧∀ q,q<i→g q=(l.filter (fun x=>!p x)).getD q default:=by
 have h1:=h.len
 have h2:=h.done
 rw [List.take_length] at h1 h2
 exact ⟨h1,h2⟩
end
theorem nlt {k n:Nat} (h:decide (Int.ofNat k<Int.ofNat n)=true):k<n:=by
 have:=of_decide_eq_true h;simp only [Int.ofNat_eq_natCast] at this;omega
theorem nge {k n:Nat} (h:decide (Int.ofNat k<Int.ofNat n)=false):n≤k:=by
 have:=of_decide_eq_false h;simp only [Int.ofNat_eq_natCast] at this;omega
theorem n0 {k:Nat} (h:decide ((0:Int)<Int.ofNat k)=true):0<k:=by
 have:=of_decide_eq_true h;simp only [Int.ofNat_eq_natCast] at this;omega
theorem n0' {k:Nat} (h:decide ((0:Int)<Int.ofNat k)=false):k=0:=by
 have:=of_decide_eq_false h;simp only [Int.ofNat_eq_natCast] at this;omega
theorem nt {b:Bool} (h:(!b)=true):b=false:=by cases b <;> first | rfl | cases h
theorem nf {b:Bool} (h:(!b)=false):b=true:=by cases b <;> first | rfl | cases h
theorem z6i {k:Nat} (h:0<k):AImp (iv (Int.ofNat k - 1)) (nv (k - 1)):=z0K (by simp only [Int.ofNat_eq_natCast];omega)
theorem z0e {p:Nat→Prop} {k:Nat} (h:∀ i,i<k→p i) (hk:p k):∀ i,i<k+1→p i:=fun i hi=>by
 by_cases e:i=k
 ·subst e;exact hk
 ·exact h i (by omega)
theorem none0 {p:Nat→Prop}:∀ i,i<0→p i:=fun i hi=>absurd hi (Nat.not_lt_zero i)
structure Sht where
 id:Int
 paper:Int
 first:Int
 catch_:Int
 holes:Int
 unsure:Int
structure Sew where
 fro:Int
 too:Int
instance:Inhabited Sht:=⟨⟨0,0,0,0,0,0⟩⟩
instance:Inhabited Sew:=⟨⟨0,0⟩⟩
def zg (l:List Sht) (k:Nat):Sht:=l.getD k default
def zF (l:List Sew) (k:Nat):Sew:=l.getD k default
def y5 (s:Sht):List PV:=[.int .i64 s.id,.int .i64 s.paper,.int .i64 s.first,.int .i64 s.catch_,.int .i64 s.holes,.int .i64 s.unsure]
def zg4 (x:Sew):List PV:=[.int .i64 x.fro,.int .i64 x.too]
def fS (l:List Sht):Nat→List PV:=fun k=>y5 (zg l k)
def fW (l:List Sew):Nat→List PV:=fun k=>zg4 (zF l k)
def z1t (b:Bool) (l:List Sht):PV:=.lst 74 b l.length (fS l)
def zdw (b:Bool) (l:List Sew):PV:=.lst 58 b l.length (fW l)
def z7h (b:Bool) (l:List Int):PV:=.lst 3 b l.length fun k=>[.int .i64 (l.getD k 0)]
structure Hp where
 st:List Sht
 stB:Bool
 sw:List Sew
 swB:Bool
def eHp (h:Hp):List PV:=[z1t h.stB h.st,zdw h.swB h.sw]
theorem ziC {a b:Nat} (h:a<b):Nat.blt a b=true:=by simpa using h
theorem zkm {a b:Nat} (h:¬ a<b):Nat.blt a b=false:=by rw [←Bool.not_eq_true];simpa using h
variable {r:Rm}
theorem PureA.conv {E:Env} {F:VK} {L:VS} {src dst:TypeId} {x:Operand} {ka kc:IntKind} {a c:Int} (hx:av F x=some (.p (.int ka a))) (h:(ob (E.ti.get src) fun _=>ob (E.ti.get dst) fun i=>z8P i.desc (.int ka a))=some (.int kc c)):PureA E F L (.convert src dst x) (.p (.int kc c)):=fun T S Z j h2 h3=>by
 obtain ⟨v,h4,h5⟩:=h3.ev hx
 cases h5 with
 | p h5 =>
  cases h5
  refine ⟨.int kc c,fun cF dF=>?_,.p (.int _ _)⟩
  show ob (ob (E.ti.get src) fun _=>ob (T.ev x) fun a=>ob (E.ti.get dst) fun i=>z8P i.desc a) (fun v=>some (v,S))=_
  rw [h4]
  show ob (ob (E.ti.get src) fun _=>ob (E.ti.get dst) fun i=>z8P i.desc (.int ka a)) (fun v=>some (v,S))=_
  rw [h];rfl
theorem PureA.bin {E:Env} {F:VK} {L:VS} {op:BinOp} {t kd:TypeId} {x y:Operand} {ka kb kc:IntKind} {a b c:Int} (hx:av F x=some (.p (.int ka a))) (hy:av F y=some (.p (.int kb b))) (h:z3I E op t (.int ka a) (.int kb b)=some (.int kc c)):PureA E F L (.binOp op t x y kd) (.p (.int kc c)):=fun T S Z j h2 h3=>by
 obtain ⟨v,h4,h5⟩:=h3.ev hx
 obtain ⟨w,h6,h7⟩:=h3.ev hy
 cases h5 with
 | p h5 =>
  cases h5
  cases h7 with
  | p h7 =>
   cases h7
   refine ⟨.int kc c,fun cF dF=>?_,.p (.int _ _)⟩
   show ob (ob (T.ev x) fun a=>ob (T.ev y) fun b=>z3I E op t a b) (fun v=>some (v,S))=_
   rw [h4,h6]
   show ob (z3I E op t (.int ka a) (.int kb b)) (fun v=>some (v,S))=_
   rw [h];rfl
theorem VP.to {E:Env} {f:FuncId} {args:List AV} {a b:AV} (h:VP E f args a) (hi:AImp a b) (ho:b.only (fun _=>false)=true):VP E f args b:=⟨ho,fun S Z j vs h1 h2 h3=>by
 obtain ⟨n,v,S',k1,a',L',Z',j',k2,k3,k4,k5,k6,rfl,rfl⟩:=h.2 S Z j vs h1 h2 h3
 exact ⟨n,v,S',k1,b,[],Z',j',k2,hi _ _ _ _ _ k3,k4,k5,k6,rfl,rfl⟩⟩
theorem z8s {n:Int} (h:0≤n):∃ m:Nat,n=Int.ofNat m:=⟨n.toNat,(Int.toNat_of_nonneg h).symm⟩
theorem wrap_u64 {n:Nat} (h:n<9223372036854775808):IntKind.u64.wrap (Int.ofNat n)=Int.ofNat n:=by
 simp only [IntKind.wrap,IntKind.bits,IntKind.signed,Bool.false_and,Int.ofNat_eq_natCast]
 rw [if_neg (by decide)]
 omega
theorem wrap_i64 {n:Nat} (h:n<9223372036854775808):IntKind.i64.wrap (Int.ofNat n)=Int.ofNat n:=wrap64 (by simp only [Int.ofNat_eq_natCast];omega) (by simp only [Int.ofNat_eq_natCast];omega)
theorem znj {i j:Nat} (h:i+j<9223372036854775808):(ob ((sE r).ti.get 3) fun _=>ob ((sE r).ti.get 149) fun d=>z8P d.desc (.int .i64 (Int.ofNat i+Int.ofNat j)))=some (.int .u64 (Int.ofNat (i+j))):=by
 show some (Value.int .u64 (IntKind.u64.wrap (Int.ofNat (i+j))))=_
 rw [wrap_u64 h]
theorem znl {n:Nat} (h:n<9223372036854775808):(ob ((sE r).ti.get 149) fun _=>ob ((sE r).ti.get 3) fun d=>z8P d.desc (.int .u64 (Int.ofNat n)))=some (.int .i64 (Int.ofNat n)):=by
 show some (Value.int .i64 (IntKind.i64.wrap (Int.ofNat n)))=_
 rw [wrap_i64 h]
theorem zk3 {E:Env} {t:TypeId} {n:Nat}:z3I E .shr t (.int .u64 (Int.ofNat n)) (.int .u64 1)=some (.int .u64 (Int.ofNat (n / 2))):=by
 show some (Value.int .u64 ((Int.ofNat n).fdiv 2))=_
 rw [Int.ofNat_eq_natCast,Int.fdiv_eq_ediv_of_nonneg _ (by decide)]
 rfl
end Go.Proofs.YtdpipdniklognaaGreat
/- Walks: whether a sheet is valid, the program's and the reference's. -/
set_option maxRecDepth 100000
namespace Go.Proofs.YtdpipdniklognaaGreat
variable {r:Rm}
theorem zhO (n lo hi:Int):VP (sE r) 102 [iv n,iv lo,iv hi] (bv (wth n lo hi)):=by
 refine VP.of (fn:=Tryz.f102) za (zH rfl) (by kernel_rfl) rfl rfl rfl ?_
 refine VSt.go za false [] 200 rfl AllP.n ?_
 refine zi 10 rfl (fun h=>?_) (fun h=>?_)
 ·refine VSt.go za false [] 200 rfl AllP.n ?_
  refine EndsP.mk rfl rfl rfl ?_
  show bv _=bv _
  unfold wth;rw [show decide (lo≤n)=true from h];rfl
 ·refine VSt.go za false [] 200 rfl AllP.n ?_
  refine EndsP.mk rfl rfl rfl ?_
  show bv _=bv _
  unfold wth;rw [show decide (lo≤n)=false from h];rfl
theorem z6L (n lo hi:Int):VP (sE r) 95 [iv n,iv lo,iv hi] (bv (wth n lo hi)):=by
 refine VP.of (fn:=Tryz.f95) za (zH rfl) (by kernel_rfl) rfl rfl rfl ?_
 refine VSt.go za false [] 200 rfl AllP.n ?_
 refine zi 10 rfl (fun h=>?_) (fun h=>?_)
 ·refine VSt.go za false [] 200 rfl AllP.n ?_
  refine EndsP.mk rfl rfl rfl ?_
  show bv _=bv _
  unfold wth;rw [show decide (lo≤n)=true from h];rfl
 ·refine VSt.go za false [] 200 rfl AllP.n ?_
  refine EndsP.mk rfl rfl rfl ?_
  show bv _=bv _
  unfold wth;rw [show decide (lo≤n)=false from h];rfl
theorem z9A (n:Int):VP (sE r) 115 [iv n] (bv (wth n 1 999)):=by
 refine VP.of (fn:=Tryz.f115) za (zH rfl) (by kernel_rfl) rfl rfl rfl ?_
 refine VSt.go za false [] 200 rfl AllP.n ?_
 refine VSt.pc rfl rfl rfl rfl rfl rfl rfl rfl ((zhO n 1 999)) ?_
 refine VSt.go za false [] 200 rfl AllP.n ?_
 exact EndsP.mk rfl rfl rfl rfl
theorem zhI (n:Int):VP (sE r) 94 [iv n] (bv (wth n 0 11)):=by
 refine VP.of (fn:=Tryz.f94) za (zH rfl) (by kernel_rfl) rfl rfl rfl ?_
 refine VSt.go za false [] 200 rfl AllP.n ?_
 refine VSt.pc rfl rfl rfl rfl rfl rfl rfl rfl ((zhO n 0 11)) ?_
 refine VSt.go za false [] 200 rfl AllP.n ?_
 exact EndsP.mk rfl rfl rfl rfl
theorem zj6 {a b:Nat}:a ^^^ b=0 ↔ a=b:=by
 refine ⟨fun h=>Nat.eq_of_testBit_eq fun i=>?_,fun h=>by rw [h,Nat.xor_self]⟩
 have:=congrArg (fun n=>n.testBit i) h
 simp only [Nat.testBit_xor,Nat.zero_testBit] at this
 cases h1:a.testBit i <;> cases h2:b.testBit i <;> rw [h1,h2] at this <;> first | rfl | cases this
theorem zfS (m:Nat):((Int.ofNat (m ^^^ (m &&& 4095))==0):Bool)=decide (m≤4095):=by
 have h1:m &&& 4095=m % 4096:=Nat.and_two_pow_sub_one_eq_mod m 12
 rw [h1,Bool.eq_iff_iff,beq_iff_eq,decide_eq_true_iff]
 have h2:m ^^^ (m % 4096)=0 ↔ m=m % 4096:=zj6
 rw [show (Int.ofNat (m ^^^ (m % 4096))=0) ↔ m ^^^ (m % 4096)=0 from by simp only [Int.ofNat_eq_natCast];omega,h2]
 omega
theorem zg7 {m:Nat} (hm:m<9223372036854775808):VP (sE r) 149 [iv (Int.ofNat m),iv 4095] (bv (decide (m≤4095))):=by
 refine VP.of (fn:=Tryz.f149) za (zH rfl) (by kernel_rfl) rfl rfl rfl ?_
 refine VSt.go za false [] 200 rfl ((AllP.c hm (AllP.c (by decide) AllP.n))) ?_
 refine EndsP.mk rfl rfl rfl ?_
 show bv _=bv _
 rw [←zfS]
theorem z9z {n:Int} (hn:inR n):VP (sE r) 116 [iv n] (bv (wth n 0 4095)):=by
 by_cases h0:0≤n
 ·obtain ⟨m,rfl⟩:=z8s h0
  have hm:m<9223372036854775808:=by have:=hn.2;simp only [Int.ofNat_eq_natCast] at this;omega
  refine VP.of (fn:=Tryz.f116) za (zH rfl) (by kernel_rfl) rfl rfl rfl ?_
  refine VSt.go za false [] 200 rfl AllP.n ?_
  refine zi 5 rfl (fun h=>?_) (fun h=>?_)
  rotate_left
  ·exact absurd (show decide (0≤Int.ofNat m)=false from h) (by rw [decide_eq_true h0];decide)
  refine VSt.go za false [] 200 rfl AllP.n ?_
  refine VSt.pc rfl rfl rfl rfl rfl rfl rfl rfl ((zg7 hm)) ?_
  refine VSt.go za false [] 200 rfl AllP.n ?_
  refine EndsP.mk rfl rfl rfl ?_
  show bv _=bv _
  unfold wth
  rw [decide_eq_true h0,Bool.true_and]
  congr 2
  exact propext ⟨fun h=>by simp only [Int.ofNat_eq_natCast];omega,fun h=>by simp only [Int.ofNat_eq_natCast] at h;omega⟩
 ·refine VP.of (fn:=Tryz.f116) za (zH rfl) (by kernel_rfl) rfl rfl rfl ?_
  refine VSt.go za false [] 200 rfl AllP.n ?_
  refine zi 5 rfl (fun h=>?_) (fun h=>?_)
  ·exact absurd (of_decide_eq_true (show decide (0≤n)=true from h)) h0
  refine VSt.go za false [] 200 rfl AllP.n ?_
  refine EndsP.mk rfl rfl rfl ?_
  show bv _=bv _
  unfold wth
  rw [decide_eq_false h0];rfl
def zmd (a b:Int):Bool:=!(Int.ofNat (a.toNat &&& b.toNat)==0)
theorem zjS {m k:Nat} (hm:m<9223372036854775808) (hk:k<9223372036854775808):VP (sE r) 117 [iv (Int.ofNat m),iv (Int.ofNat k)] (bv (zmd (Int.ofNat m) (Int.ofNat k))):=by
 refine VP.of (fn:=Tryz.f117) za (zH rfl) (by kernel_rfl) rfl rfl rfl ?_
 refine VSt.go za false [] 200 rfl (AllP.c ‹_› (AllP.c ‹_› AllP.n)) ?_
 exact EndsP.mk rfl rfl rfl rfl
structure OkS (s:Sht):Prop where
 id:wth s.id 1 99=true
 paper:wth s.paper 1 999=true
 first:wth s.first 0 999=true
 catch_:wth s.catch_ 0 999=true
 holes:wth s.holes 0 4095=true
 unsure:wth s.unsure 0 4095=true
 apart:zmd s.holes s.unsure=false
open Classical in
noncomputable def ckS (s:Sht):Int:=if OkS s then 0 else 50
theorem z1E {s:Sht} (h:¬ OkS s):ckS s=50:=if_neg h
theorem zeK {s:Sht} (h:OkS s):ckS s=0:=if_pos h
theorem zl6 (s:Sht):(OkS s∧ckS s=0)∨(¬ OkS s∧ckS s=50):=by
 unfold ckS
 by_cases h:OkS s
 ·exact .inl ⟨h,if_pos h⟩
 ·exact .inr ⟨h,if_neg h⟩
structure SzS (s:Sht):Prop where
 holes:inR s.holes
 unsure:inR s.unsure
theorem OkS.sz {s:Sht} (h:OkS s):SzS s:=by
 have h1:=wth_iff.1 h.holes
 have h2:=wth_iff.1 h.unsure
 exact ⟨⟨by omega,by omega⟩,⟨by omega,by omega⟩⟩
set_option maxHeartbeats 4000000 in
theorem zob {s:Sht} (hz:SzS s):VP (sE r) 59 [.agg ((y5 s).map .p)] (iv (ckS s)):=by
 refine VP.of (fn:=Tryz.f59) za (zH rfl) (by kernel_rfl) rfl rfl rfl ?_
 refine VSt.go za false [] 200 rfl AllP.n ?_
 refine VSt.pc rfl rfl rfl rfl rfl rfl rfl rfl ((zhO s.id 1 99)) ?_
 refine VSt.go za false [] 200 rfl AllP.n ?_
 refine zi 7 rfl (fun a1=>?_) (fun a1=>?_)
 ·refine VSt.go za false [] 200 rfl AllP.n ?_
  refine EndsP.mk rfl rfl rfl ?_
  rw [z1E fun h=>by have:=h.id;rw [nt a1] at this;cases this];rfl
 refine VSt.go za false [] 200 rfl AllP.n ?_
 refine VSt.pc rfl rfl rfl rfl rfl rfl rfl rfl ((z9A s.paper)) ?_
 refine VSt.go za false [] 200 rfl AllP.n ?_
 refine zi 13 rfl (fun a2=>?_) (fun a2=>?_)
 ·refine VSt.go za false [] 200 rfl AllP.n ?_
  refine EndsP.mk rfl rfl rfl ?_
  rw [z1E fun h=>by have:=h.paper;rw [nt a2] at this;cases this];rfl
 refine VSt.go za false [] 200 rfl AllP.n ?_
 refine VSt.pc rfl rfl rfl rfl rfl rfl rfl rfl ((zhO s.first 0 999)) ?_
 refine VSt.go za false [] 200 rfl AllP.n ?_
 refine zi 19 rfl (fun a3=>?_) (fun a3=>?_)
 ·refine VSt.go za false [] 200 rfl AllP.n ?_
  refine EndsP.mk rfl rfl rfl ?_
  rw [z1E fun h=>by have:=h.first;rw [nt a3] at this;cases this];rfl
 refine VSt.go za false [] 200 rfl AllP.n ?_
 refine VSt.pc rfl rfl rfl rfl rfl rfl rfl rfl ((zhO s.catch_ 0 999)) ?_
 refine VSt.go za false [] 200 rfl AllP.n ?_
 refine zi 25 rfl (fun a4=>?_) (fun a4=>?_)
 ·refine VSt.go za false [] 200 rfl AllP.n ?_
  refine EndsP.mk rfl rfl rfl ?_
  rw [z1E fun h=>by have:=h.catch_;rw [nt a4] at this;cases this];rfl
 refine VSt.go za false [] 200 rfl AllP.n ?_
 refine VSt.pc rfl rfl rfl rfl rfl rfl rfl rfl ((z9z hz.holes)) ?_
 refine VSt.go za false [] 200 rfl AllP.n ?_
 refine zi 31 rfl (fun a5=>?_) (fun a5=>?_)
 ·refine VSt.go za false [] 200 rfl AllP.n ?_
  refine EndsP.mk rfl rfl rfl ?_
  rw [z1E fun h=>by have:=h.holes;rw [nt a5] at this;cases this];rfl
 refine VSt.go za false [] 200 rfl AllP.n ?_
 refine VSt.pc rfl rfl rfl rfl rfl rfl rfl rfl ((z9z hz.unsure)) ?_
 refine VSt.go za false [] 200 rfl AllP.n ?_
 refine zi 37 rfl (fun a6=>?_) (fun a6=>?_)
 ·refine VSt.go za false [] 200 rfl AllP.n ?_
  refine EndsP.mk rfl rfl rfl ?_
  rw [z1E fun h=>by have:=h.unsure;rw [nt a6] at this;cases this];rfl
 have h5:=wth_iff.1 (nf a5)
 have h6:=wth_iff.1 (nf a6)
 obtain ⟨i1,i2,i3,i4,i5,i6⟩:=s
 obtain ⟨m,rfl⟩:=z8s h5.1
 obtain ⟨k,rfl⟩:=z8s h6.1
 have hm:m<9223372036854775808:=by have:=h5.2;simp only [Int.ofNat_eq_natCast] at this;omega
 have hk:k<9223372036854775808:=by have:=h6.2;simp only [Int.ofNat_eq_natCast] at this;omega
 refine VSt.go za false [] 200 rfl AllP.n ?_
 refine VSt.pc rfl rfl rfl rfl rfl rfl rfl rfl ((zjS hm hk)) ?_
 refine VSt.go za false [] 200 rfl AllP.n ?_
 refine VSt.cond rfl (fun a7=>?_) (fun a7=>?_)
 ·refine VSt.go za false [] 200 rfl AllP.n ?_
  refine EndsP.mk rfl rfl rfl ?_
  rw [z1E fun h=>by have:=h.apart;rw [a7] at this;cases this];rfl
 ·refine VSt.go za false [] 200 rfl AllP.n ?_
  refine EndsP.mk rfl rfl rfl ?_
  rw [zeK ⟨nf a1,nf a2,nf a3,nf a4,nf a5,nf a6,a7⟩];rfl
set_option maxHeartbeats 4000000 in
theorem zlT (s:Sht):VP (sE r) 60 [.agg ((y5 s).map .p)] (iv (ckS s)):=by
 refine VP.of (fn:=Tryz.f60) za (zH rfl) (by kernel_rfl) rfl rfl rfl ?_
 refine VSt.go za false [] 200 rfl AllP.n ?_
 refine VSt.pc rfl rfl rfl rfl rfl rfl rfl rfl ((z6L s.id 1 99)) ?_
 refine VSt.go za false [] 200 rfl AllP.n ?_
 refine zi 7 rfl (fun a1=>?_) (fun a1=>?_)
 ·refine VSt.go za false [] 200 rfl AllP.n ?_
  refine EndsP.mk rfl rfl rfl ?_
  rw [z1E fun h=>by have:=h.id;rw [nt a1] at this;cases this];rfl
 refine VSt.go za false [] 200 rfl AllP.n ?_
 refine VSt.pc rfl rfl rfl rfl rfl rfl rfl rfl ((z6L s.paper 1 999)) ?_
 refine VSt.go za false [] 200 rfl AllP.n ?_
 refine zi 13 rfl (fun a2=>?_) (fun a2=>?_)
 ·refine VSt.go za false [] 200 rfl AllP.n ?_
  refine EndsP.mk rfl rfl rfl ?_
  rw [z1E fun h=>by have:=h.paper;rw [nt a2] at this;cases this];rfl
 refine VSt.go za false [] 200 rfl AllP.n ?_
 refine VSt.pc rfl rfl rfl rfl rfl rfl rfl rfl ((z6L s.first 0 999)) ?_
 refine VSt.go za false [] 200 rfl AllP.n ?_
 refine zi 19 rfl (fun a3=>?_) (fun a3=>?_)
 ·refine VSt.go za false [] 200 rfl AllP.n ?_
  refine EndsP.mk rfl rfl rfl ?_
  rw [z1E fun h=>by have:=h.first;rw [nt a3] at this;cases this];rfl
 refine VSt.go za false [] 200 rfl AllP.n ?_
 refine VSt.pc rfl rfl rfl rfl rfl rfl rfl rfl ((z6L s.catch_ 0 999)) ?_
 refine VSt.go za false [] 200 rfl AllP.n ?_
 refine VSt.cond rfl (fun a4=>?_) (fun a4=>?_)
 ·refine VSt.go za false [] 200 rfl AllP.n ?_
  refine EndsP.mk rfl rfl rfl ?_
  rw [z1E fun h=>by have:=h.catch_;rw [nt a4] at this;cases this];rfl
 refine VSt.go za false [] 200 rfl AllP.n ?_
 refine VSt.pc rfl rfl rfl rfl rfl rfl rfl rfl ((z6L s.holes 0 4095)) ?_
 refine VSt.go za false [] 200 rfl AllP.n ?_
 refine zi 29 rfl (fun a5=>?_) (fun a5=>?_)
 ·refine VSt.go za false [] 200 rfl AllP.n ?_
  refine EndsP.mk rfl rfl rfl ?_
  rw [z1E fun h=>by have:=h.holes;rw [nt a5] at this;cases this];rfl
 refine VSt.go za false [] 200 rfl AllP.n ?_
 refine VSt.pc rfl rfl rfl rfl rfl rfl rfl rfl ((z6L s.unsure 0 4095)) ?_
 refine VSt.go za false [] 200 rfl AllP.n ?_
 refine zi 35 rfl (fun a6=>?_) (fun a6=>?_)
 ·refine VSt.go za false [] 200 rfl AllP.n ?_
  refine EndsP.mk rfl rfl rfl ?_
  rw [z1E fun h=>by have:=h.unsure;rw [nt a6] at this;cases this];rfl
 have h5:=wth_iff.1 (nf a5)
 have h6:=wth_iff.1 (nf a6)
 obtain ⟨i1,i2,i3,i4,i5,i6⟩:=s
 obtain ⟨m,rfl⟩:=z8s h5.1
 obtain ⟨k,rfl⟩:=z8s h6.1
 have hm:m<9223372036854775808:=by have:=h5.2;simp only [Int.ofNat_eq_natCast] at this;omega
 have hk:k<9223372036854775808:=by have:=h6.2;simp only [Int.ofNat_eq_natCast] at this;omega
 refine VSt.go za false [] 200 rfl (AllP.c ‹_› (AllP.c ‹_› AllP.n)) ?_
 refine VSt.cond rfl (fun a7=>?_) (fun a7=>?_)
 ·refine VSt.go za false [] 200 rfl AllP.n ?_
  refine EndsP.mk rfl rfl rfl ?_
  rw [z1E fun h=>by have:=h.apart;rw [show zmd (Int.ofNat m) (Int.ofNat k)=true from a7] at this;cases this];rfl
 ·refine VSt.go za false [] 200 rfl AllP.n ?_
  refine EndsP.mk rfl rfl rfl ?_
  rw [zeK ⟨nf a1,nf a2,nf a3,nf a4,nf a5,nf a6,a7⟩];rfl
end Go.Proofs.YtdpipdniklognaaGreat
/- Walks: where a sheet stands. -/
set_option maxRecDepth 100000
namespace Go.Proofs.YtdpipdniklognaaGreat
variable {r:Rm}
theorem zbT (a:Int):VP (sE r) 171 [iv a] (bv false):=by
 refine VP.of (fn:=Tryz.f171) za (zH rfl) (by kernel_rfl) rfl rfl rfl ?_
 refine VSt.go za false [] 200 rfl AllP.n ?_
 refine EndsP.mk rfl rfl rfl ?_
 show bv (!(a==a))=_
 rw [beq_self_eq_true];rfl
def zj5 (a b:Int):Int:=if a<b then -1 else if b<a then 1 else 0
theorem zmJ (a b:Int):VP (sE r) 133 [iv a,iv b] (iv (zj5 a b)):=by
 refine VP.of (fn:=Tryz.f133) za (zH rfl) (by kernel_rfl) rfl rfl rfl ?_
 refine VSt.go za false [] 200 rfl AllP.n ?_
 refine VSt.pc rfl rfl rfl rfl rfl rfl rfl rfl ((zbT a)) ?_
 refine VSt.go za false [] 200 rfl AllP.n ?_
 refine VSt.pc rfl rfl rfl rfl rfl rfl rfl rfl ((zbT b)) ?_
 refine VSt.go za false [] 200 rfl AllP.n ?_
 refine VSt.cond rfl (fun h=>absurd h (by decide)) (fun _=>?_)
 refine VSt.go za false [] 200 rfl AllP.n ?_
 refine VSt.cond rfl (fun h=>absurd h (by decide)) (fun _=>?_)
 refine VSt.go za false [] 200 rfl AllP.n ?_
 refine VSt.cond rfl (fun h=>?_) (fun h=>?_)
 ·refine VSt.go za false [] 200 rfl AllP.n ?_
  refine EndsP.mk rfl rfl rfl ?_
  show iv _=iv _
  unfold zj5;rw [if_pos (of_decide_eq_true h)]
 ·refine VSt.go za false [] 200 rfl AllP.n ?_
  have h:=of_decide_eq_false h
  refine VSt.cond rfl (fun h2=>?_) (fun h2=>?_)
  ·refine VSt.go za false [] 200 rfl AllP.n ?_
   refine EndsP.mk rfl rfl rfl ?_
   show iv _=iv _
   unfold zj5;rw [if_neg h,if_pos (of_decide_eq_true h2)]
  ·refine VSt.go za false [] 200 rfl AllP.n ?_
   refine EndsP.mk rfl rfl rfl ?_
   show iv _=iv _
   unfold zj5;rw [if_neg h,if_neg (of_decide_eq_false h2)]
theorem cmp_lt {a b:Int}:decide (zj5 a b<0)=decide (a<b):=by
 unfold zj5
 by_cases h:a<b
 ·rw [if_pos h,decide_eq_true h];rfl
 ·rw [if_neg h,decide_eq_false h]
  split <;> rfl
theorem cmp_eq {a b:Int}:(zj5 a b==0)=(a==b):=by
 unfold zj5
 by_cases h:a<b
 ·rw [if_pos h,beq_false_of_ne (show a≠b by omega)];rfl
 ·rw [if_neg h]
  by_cases h2:b<a
  ·rw [if_pos h2,beq_false_of_ne (show a≠b by omega)];rfl
  ·have:a=b:=by omega
   subst this
   rw [if_neg h2,beq_self_eq_true,beq_self_eq_true]
theorem zc8 (o:Sht) (s:Int):VP (sE r) 139 [.agg ((y5 o).map .p),iv s] (iv (zj5 o.id s)):=by
 refine VP.of (fn:=Tryz.f139) za (zH rfl) (by kernel_rfl) rfl rfl rfl ?_
 refine VSt.go za false [] 200 rfl AllP.n ?_
 refine VSt.pc rfl rfl rfl rfl rfl rfl rfl rfl ((zmJ o.id s)) ?_
 refine VSt.go za false [] 200 rfl AllP.n ?_
 exact EndsP.mk rfl rfl rfl rfl
def Rising (l:List Sht):Prop:=∀ i,0<i→i<l.length→(zg l (i - 1)).id<(zg l i).id
theorem Rising.lt {l:List Sht} (h:Rising l):∀ {p q:Nat},p<q→q<l.length→(zg l p).id<(zg l q).id:=by
 intro p q hpq hq
 obtain ⟨d,rfl⟩:∃ d,q=p+1+d:=⟨q - (p+1),by omega⟩
 clear hpq
 induction d with
 | zero=>exact h (p+1) (by omega) hq
 | succ d ih =>
  have h1:=ih (by omega)
  have h2:=h (p+1+d+1) (by omega) hq
  rw [show p+1+d+1 - 1=p+1+d by omega] at h2
  exact Int.lt_trans h1 h2
theorem Rising.inj {l:List Sht} (h:Rising l) {p q:Nat} (hp:p<l.length) (hq:q<l.length) (e:(zg l p).id=(zg l q).id):p=q:=by
 rcases Nat.lt_trichotomy p q with g | g | g
 ·have:=h.lt g hq;omega
 ·exact g
 ·have:=h.lt g hp;omega
def z4p (l:List Sht) (s:Int):Nat:=(l.filter fun o=>decide (o.id<s)).length
def zcw (l:List Sht) (s:Int):Bool:=l.any fun o=>o.id==s
theorem zh4 {l:List Sht} {s:Int} {i:Nat} (hi:i≤l.length) (h1:∀ q,q<i→(zg l q).id<s) (h2:∀ q,i≤q→q<l.length→s≤(zg l q).id):z4p l s=i:=by
 unfold z4p
 have e:l=l.take i++l.drop i:=(List.take_append_drop i l).symm
 conv=>lhs;rw [e]
 rw [List.filter_append,List.filter_eq_self.2,List.filter_eq_nil_iff.2,List.append_nil,List.length_take]
 ·omega
 ·intro o ho
  obtain ⟨q,hq,e⟩:=List.mem_iff_getElem.1 ho
  rw [List.length_drop] at hq
  rw [List.getElem_drop] at e
  have:=h2 (i+q) (by omega) (by omega)
  unfold zg at this
  rw [z0f (by omega),e] at this
  rw [decide_eq_false (by omega)];decide
 ·intro o ho
  obtain ⟨q,hq,e⟩:=List.mem_iff_getElem.1 ho
  rw [List.length_take] at hq
  rw [List.getElem_take] at e
  have:=h1 q (by omega)
  unfold zg at this
  rw [z0f (by omega),e] at this
  exact decide_eq_true this
set_option maxHeartbeats 4000000 in
theorem zfP {b:Bool} {l:List Sht} {s:Int} (hR:Rising l) (hn:l.length<1000000):VP (sE r) 138 [.p (z1t b l),iv s,.fn 139 [] []] (.tup [nv (z4p l s),bv (zcw l s)]):=by
 have hmono:∀ p q,p≤q→q<l.length→(zg l p).id≤(zg l q).id:=fun p q hpq hq=>by
  by_cases e:p=q
  ·subst e;exact Int.le_refl _
  ·have h1:=hR.lt (show p<q by omega) hq;omega
 refine VP.of (fn:=Tryz.f138) za (zH rfl) (by kernel_rfl) rfl rfl rfl ?_
 refine VSt.go za false [] 200 rfl AllP.n ?_
 refine VSt.loop (α :=Nat×Nat) (fun x F L=>x.1≤x.2∧x.2≤l.length∧(∀ q,q<x.1→(zg l q).id<s)∧(∀ q,x.2≤q→q<l.length→s≤(zg l q).id)∧F=[(0,.p (z1t b l)),(1,iv s),(2,.fn 139 [] []),(8,nv l.length),(9,nv x.1),(10,nv x.2)]∧L=[]) (fun x=>x.2 - x.1) (0,l.length) (by (refine Vw.drop (by repeat (first | exact zu | refine zk rfl rfl rfl ?_ | refine zA rfl ‹_› (zt _ ‹_›) ?_)))) ⟨Nat.zero_le _,Nat.le_refl _,fun q h=>absurd h (Nat.not_lt_zero q),fun q h1 h2=>absurd h2 (by omega),rfl,rfl⟩ ?_
 rintro ⟨i,j⟩ F L ⟨h1,h2,h3,h4,rfl,rfl⟩
 refine VSt.go za false [] 200 rfl AllP.n ?_
 refine VSt.cond rfl (fun g=>?_) (fun g=>?_)
 ·have g:i<j:=nlt g
  have h2:j≤l.length:=h2
  have hm:(i+j) / 2<l.length:=by omega
  refine VSt.go za false [21] 200 rfl (AllP.c (by unfold inR;(try simp only [Int.ofNat_eq_natCast]);omega) AllP.n) ?_
  refine z5d rfl rfl (PureA.conv (ka:=.i64) (a:=Int.ofNat i+Int.ofNat j) (kc:=.u64) (c:=Int.ofNat (i+j)) rfl (znj (by omega))) ?_
  refine z5d rfl rfl (PureA.bin (ka:=.u64) (kb:=.u64) (a:=Int.ofNat (i+j)) (b:=1) (kc:=.u64) (c:=Int.ofNat ((i+j) / 2)) rfl rfl zk3) ?_
  refine z5d rfl rfl (PureA.conv (ka:=.u64) (a:=Int.ofNat ((i+j) / 2)) (kc:=.i64) (c:=Int.ofNat ((i+j) / 2)) rfl (znl (by omega))) ?_
  refine VSt.go za false [] 200 rfl (AllP.c ‹_› (AllP.c rfl AllP.n)) ?_
  refine VSt.pc rfl rfl rfl rfl rfl rfl rfl rfl ((zc8 (zg l ((i+j) / 2)) s)) ?_
  refine VSt.go za false [] 200 rfl AllP.n ?_
  refine VSt.cond rfl (fun g1=>?_) (fun g1=>?_)
  ·have g1:(zg l ((i+j) / 2)).id<s:=of_decide_eq_true (cmp_lt.symm.trans g1)
   refine VSt.go za false [] 200 rfl (AllP.c (by unfold inR;(try simp only [Int.ofNat_eq_natCast]);omega) AllP.n) ?_
   exact ⟨((i+j) / 2+1,j),_,_,(by (refine Vw.drop (by repeat (first | exact zu | refine zk rfl rfl rfl ?_ | refine zA rfl ‹_› (zt _ ‹_›) ?_)))),⟨by show (i+j) / 2+1≤j;omega,h2,fun q hq=>Int.lt_of_le_of_lt (hmono q ((i+j) / 2) (by have:q<(i+j) / 2+1:=hq;omega) hm) g1,h4,rfl,rfl⟩,by show j - ((i+j) / 2+1)<j - i;omega⟩
  ·have g1:¬ (zg l ((i+j) / 2)).id<s:=of_decide_eq_false (cmp_lt.symm.trans g1)
   refine VSt.go za false [] 200 rfl AllP.n ?_
   exact ⟨(i,(i+j) / 2),_,_,(by (refine Vw.drop (by repeat (first | exact zu | refine zk rfl rfl rfl ?_ | refine zA rfl ‹_› (zt _ ‹_›) ?_)))),⟨by show i≤(i+j) / 2;omega,by show (i+j) / 2≤l.length;omega,h3,fun q hq hq2=>Int.le_trans (by omega) (hmono ((i+j) / 2) q hq hq2),rfl,rfl⟩,by show (i+j) / 2 - i<j - i;omega⟩
 ·have g:i=j:=by
   have g:j≤i:=nge g
   have h1:i≤j:=h1
   omega
  subst g
  have hp:z4p l s=i:=zh4 h2 h3 h4
  refine VSt.go za false [] 200 rfl AllP.n ?_
  refine zi 39 rfl (fun g2=>?_) (fun g2=>?_)
  ·have g2:i<l.length:=nlt g2
   refine VSt.go za false [] 200 rfl (AllP.c ‹_› (AllP.c rfl AllP.n)) ?_
   refine VSt.pc rfl rfl rfl rfl rfl rfl rfl rfl ((zc8 (zg l i) s)) ?_
   refine VSt.go za false [] 200 rfl AllP.n ?_
   refine EndsP.mk rfl rfl rfl ?_
   show AV.tup [nv i,bv (zj5 (zg l i).id s==0)]=_
   rw [cmp_eq,hp]
   congr 4
   rw [Bool.eq_iff_iff]
   unfold zcw
   rw [List.any_eq_true]
   refine ⟨fun h=>⟨zg l i,z0J g2,h⟩,fun ⟨o,ho,h⟩=>?_⟩
   obtain ⟨q,hq,e⟩:=z0I (d:=default) ho
   have e:zg l q=o:=e
   rw [←e,beq_iff_eq] at h
   rcases Nat.lt_trichotomy q i with hlt | rfl | hgt
   ·have:=h3 q hlt;omega
   ·exact beq_iff_eq.2 h
   ·have k1:=h4 i (Nat.le_refl _) g2
    have k2:=hmono i q (Nat.le_of_lt hgt) hq
    exact beq_iff_eq.2 (by omega)
  ·have g2:i=l.length:=by have:=nge g2;have:i≤l.length:=h2;omega
   refine VSt.go za false [] 200 rfl AllP.n ?_
   refine EndsP.mk rfl rfl rfl ?_
   show AV.tup [nv i,bv false]=_
   rw [hp]
   congr 4
   symm
   unfold zcw
   rw [List.any_eq_false]
   intro o ho
   obtain ⟨q,hq,e⟩:=z0I (d:=default) ho
   have e:zg l q=o:=e
   have:=h3 q (by show q<i;omega)
   rw [e] at this
   rw [beq_false_of_ne (by omega)];decide
theorem find_ok {b b2:Bool} {l:List Sht} {w:List Sew} {s:Int} (hR:Rising l) (hn:l.length<1000000):VP (sE r) 97 [.agg [.p (z1t b l),.p (zdw b2 w)],iv s] (.tup [nv (z4p l s),bv (zcw l s)]):=by
 refine VP.of (fn:=Tryz.f97) za (zH rfl) (by kernel_rfl) rfl rfl rfl ?_
 refine VSt.go za false [] 200 rfl AllP.n ?_
 refine VSt.pc rfl rfl rfl rfl rfl rfl rfl rfl ((zfP (b:=b) (s:=s) hR hn)) ?_
 refine VSt.go za false [] 200 rfl AllP.n ?_
 exact EndsP.mk rfl rfl rfl rfl
theorem zcZ {l:List Sht} (hR:Rising l) {i:Nat} (hi:i<l.length):z4p l (zg l i).id=i :=
 zh4 (Nat.le_of_lt hi) (fun q hq=>hR.lt hq hi) fun q hq hl=>by
  rcases Nat.lt_or_eq_of_le hq with h | h
  ·have:=hR.lt h hl;omega
  ·subst h;exact Int.le_refl _
theorem z8B {l:List Sht} {s:Int} (hR:Rising l) (h:zcw l s=true):z4p l s<l.length∧(zg l (z4p l s)).id=s:=by
 unfold zcw at h
 obtain ⟨o,ho,e⟩:=List.any_eq_true.1 h
 obtain ⟨i,hi,rfl⟩:=z0I (d:=default) ho
 have e:(zg l i).id=s:=beq_iff_eq.1 e
 have hp:z4p l s=i:=by rw [←e];exact zcZ hR hi
 rw [hp];exact ⟨hi,e⟩
theorem zhW {l:List Sht} {i:Nat} (hi:i<l.length):zcw l (zg l i).id=true:=List.any_eq_true.2 ⟨zg l i,z0J hi,beq_self_eq_true _⟩
end Go.Proofs.YtdpipdniklognaaGreat
/- Walks: the program's check of a heap. -/
set_option maxRecDepth 100000
namespace Go.Proofs.YtdpipdniklognaaGreat
variable {r:Rm}
structure SzH (h:Hp):Prop where
 st:h.st.length<9223372036854775808
 sw:h.sw.length<9223372036854775808
 each:∀ k,k<h.st.length→SzS (zg h.st k)
 stN:h.stB=true→h.st=[]
 swN:h.swB=true→h.sw=[]
def z7k (l:List Sht) (k:Nat) (p:Int):Nat:=((l.take k).filter fun s=>s.paper==p).length
def cnt (l:List Sht) (p:Int):Nat:=(l.filter fun s=>s.paper==p).length
def cF (l:List Sht):Nat→Int→Option Int
 | 0=>fun _=>none
 | k+1=>fun q=>bif q==(zg l k).paper then some ((cF l k (zg l k).paper).getD 0+1) else cF l k q
theorem ze0 {l:List Sht} {k:Nat} (h:k<l.length):l.take (k+1)=l.take k++[zg l k]:=by
 unfold zg;rw [List.take_add_one,z0f h,List.getElem?_eq_getElem h];rfl
theorem ziz (l:List Sht):∀ k,k≤l.length→∀ q,(cF l k q).getD 0=Int.ofNat (z7k l k q)
 | 0,_,q=>by unfold z7k;rw [List.take_zero];rfl
 | k+1,h,q=>by
  have ih:=ziz l k (by omega)
  have e:z7k l (k+1) q=z7k l k q+(bif (zg l k).paper==q then 1 else 0):=by
   unfold z7k
   rw [ze0 (show k<l.length by omega),List.filter_append,List.length_append]
   cases hb:(zg l k).paper==q with
   | true=>rw [show [zg l k].filter (fun s=>s.paper==q)=[zg l k] from List.filter_cons_of_pos (p:=fun s:Sht=>s.paper==q) hb];rfl
   | false=>rw [show [zg l k].filter (fun s=>s.paper==q)=[] from List.filter_cons_of_neg (p:=fun s:Sht=>s.paper==q) (by rw [hb];decide)];rfl
  rw [e]
  show (bif q==(zg l k).paper then some ((cF l k (zg l k).paper).getD 0+1) else cF l k q).getD 0=_
  by_cases hq:q=(zg l k).paper
  ·subst hq
   rw [beq_self_eq_true,ih];rfl
  ·rw [beq_false_of_ne hq,beq_false_of_ne (Ne.symm hq)]
   exact ih q
theorem zmI (l:List Sht) (k:Nat) (p:Int):z7k l k p≤k:=Nat.le_trans (List.length_filter_le _ _) (by rw [List.length_take];omega)
def SewOk (l:List Sht) (x:Sew):Prop:=∃ a b,a<l.length∧b<l.length∧(zg l a).id=x.fro∧(zg l b).id=x.too∧a≠b∧(zg l a).paper=(zg l b).paper
structure OkH (h:Hp):Prop where
 st:h.st.length≤24
 sw:h.sw.length≤12
 ok:∀ i,i<h.st.length→OkS (zg h.st i)
 rise:Rising h.st
 few:∀ i,i<h.st.length→cnt h.st (zg h.st i).paper≤7
 sewn:∀ i,i<h.sw.length→SewOk h.st (zF h.sw i)
 froms:∀ i,0<i→i<h.sw.length→(zF h.sw (i - 1)).fro<(zF h.sw i).fro
 toos:∀ i,i<h.sw.length→∀ k,k<i→(zF h.sw k).too≠(zF h.sw i).too
open Classical in
noncomputable def ckH (h:Hp):Int:=if OkH h then 0 else 51
theorem z0r {h:Hp} (n:¬ OkH h):ckH h=51:=if_neg n
theorem zeL {h:Hp} (n:OkH h):ckH h=0:=if_pos n
structure To1 (l:List Sht) (k:Nat):Prop where
 ok:∀ i,i<k→OkS (zg l i)
 few:∀ i,i<k→z7k l (i+1) (zg l i).paper≤7
 rise:∀ i,0<i→i<k→(zg l (i - 1)).id<(zg l i).id
theorem To1.zero (l:List Sht):To1 l 0:=⟨none0,none0,fun i _ hi=>absurd hi (Nat.not_lt_zero i)⟩
theorem To1.succ {l:List Sht} {k:Nat} (h:To1 l k) (h1:OkS (zg l k)) (h2:z7k l (k+1) (zg l k).paper≤7) (h3:0<k→(zg l (k - 1)).id<(zg l k).id):To1 l (k+1):=by
 refine ⟨z0e h.ok h1,z0e h.few h2,fun i h0 hi=>?_⟩
 by_cases e:i=k
 ·subst e;exact h3 h0
 ·exact h.rise i h0 (by omega)
theorem zik (l:List Sht) (p:Int) {a b:Nat} (h:a≤b):z7k l a p≤z7k l b p:=by
 unfold z7k
 obtain ⟨d,rfl⟩:∃ d,b=a+d:=⟨b - a,by omega⟩
 rw [List.take_add,List.filter_append,List.length_append];omega
theorem zeH (l:List Sht) (p:Int):z7k l l.length p=cnt l p:=by unfold z7k cnt;rw [List.take_length]
theorem OkH.few1 {h:Hp} (n:OkH h) {k:Nat} (hk:k<h.st.length):z7k h.st (k+1) (zg h.st k).paper≤7 :=
 Nat.le_trans (by rw [←zeH];exact zik _ _ hk) (n.few k hk)
theorem zki {l:List Sht} (h:∀ i,i<l.length→z7k l (i+1) (zg l i).paper≤7) (p:Int):cnt l p≤7:=by
 rw [←zeH]
 have:∀ k,k≤l.length→z7k l k p≤7:=by
  intro k
  induction k with
  | zero=>intro _;unfold z7k;rw [List.take_zero];exact Nat.zero_le _
  | succ k ih =>
   intro hk
   by_cases e:(zg l k).paper=p
   ·rw [←e];exact h k hk
   ·have:z7k l (k+1) p=z7k l k p:=by
     unfold z7k
     rw [ze0 hk,List.filter_append,show [zg l k].filter (fun s=>s.paper==p)=[] from List.filter_cons_of_neg (p:=fun s:Sht=>s.paper==p) (by rw [beq_false_of_ne e];decide),List.append_nil]
    rw [this];exact ih (by omega)
 exact this _ (Nat.le_refl _)
theorem ziu (o x:Sew):VP (sE r) 99 [.agg ((zg4 o).map .p),.p (.fp (zg4 x) 0)] (bv (o.too==x.too)):=by
 refine VP.of (fn:=Tryz.f99) za (zH rfl) (by kernel_rfl) rfl rfl rfl ?_
 refine VSt.go za false [] 200 rfl AllP.n ?_
 exact EndsP.mk rfl rfl rfl rfl
theorem zmn {b:Bool} {l:List Sew} {f:Nat} {first cap:List AV} {p:Sew→Bool} (hn:l.length<9223372036854775808) (hon:(AV.fn f first cap).only (olds [])=true) (hoc:∀ x,z06 (olds []) (first++([.agg ((zg4 x).map .p)]++cap))=true) (hf:∀ x,VP (sE r) f (first++([.agg ((zg4 x).map .p)]++cap)) (bv (p x))) :
  VP (sE r) 140 [.p (zdw b l),.fn f first cap] (iv (z7z l p)):=by
 refine VP.of (fn:=Tryz.f140) za (zH rfl) (by kernel_rfl) rfl rfl rfl ?_
 refine VSt.run za false [] 200 rfl trivial ?_
 refine z6E za l.length (by omega) (fun _=>[(0,.p (zdw b l)),(1,.fn f first cap)]) (fun _=>[]) (fun k=>∀ i,i<k→p (l.getD i default)=false) rfl rfl (fun _=>rfl) ?_ (fun i hi=>absurd hi (Nat.not_lt_zero i)) (fun k hk hp=>?_) (fun hp=>?_)
 ·(refine Vw.drop (by repeat (first | exact zu | refine zk rfl rfl rfl ?_ | refine zA rfl ‹_› (zt _ ‹_›) ?_)))
 ·refine VSt.run za false [] 200 rfl (⟨hk,rfl⟩) ?_
  refine z5U (hf (l.getD k default)) rfl rfl rfl rfl rfl rfl (hoc _) ?_
  refine VSt.run za false [] 200 rfl trivial ?_
  refine VSt.cond rfl (fun hc=>?_) (fun hc=>?_)
  ·refine VSt.run za false [] 200 rfl trivial ?_
   refine EndsP.mk rfl rfl rfl ?_
   rw [z7y hk hc hp];rfl
  ·refine VSt.run za false [] 200 rfl trivial ?_
   refine ⟨by (refine Vw.drop (by repeat (first | exact zu | refine zk rfl rfl rfl ?_ | refine zA rfl ‹_› (zt _ ‹_›) ?_))),fun i hi=>?_⟩
   by_cases e:i=k
   ·subst e;exact hc
   ·exact hp i (by omega)
 ·refine VSt.run za false [] 200 rfl trivial ?_
  refine EndsP.mk rfl rfl rfl ?_
  rw [z8y hp];rfl
theorem zez {α : Type} (l:List α) (p : α → Bool):decide (0≤z7z l p)=l.any p:=by
 unfold z7z
 cases h:l.findIdx? p with
 | none =>
  rw [List.findIdx?_eq_none_iff] at h
  symm
  show l.any p=false
  rw [List.any_eq_false]
  exact fun x hx=>by simp [h x hx]
 | some k =>
  have:l.any p=true:=by
   rw [List.findIdx?_eq_some_iff_getElem] at h
   obtain ⟨hk,h,_⟩:=h
   exact List.any_eq_true.2 ⟨_,List.getElem_mem hk,h⟩
  rw [this];exact decide_eq_true (Int.natCast_nonneg k)
theorem zkh {b:Bool} {l:List Sew} {f:Nat} {first cap:List AV} {p:Sew→Bool} (hn:l.length<9223372036854775808) (hon:(AV.fn f first cap).only (olds [])=true) (hoc:∀ x,z06 (olds []) (first++([.agg ((zg4 x).map .p)]++cap))=true) (hf:∀ x,VP (sE r) f (first++([.agg ((zg4 x).map .p)]++cap)) (bv (p x))) :
  VP (sE r) 98 [.p (zdw b l),.fn f first cap] (bv (l.any p)):=by
 refine VP.of (fn:=Tryz.f98) za (zH rfl) (by kernel_rfl) rfl rfl rfl ?_
 refine VSt.run za false [] 200 rfl trivial ?_
 refine z5U (zmn hn hon hoc hf) rfl rfl rfl rfl rfl rfl (by
  show (true&&((AV.fn f first cap).only (olds [])&&true))=true
  rw [hon];rfl) ?_
 refine VSt.run za false [] 200 rfl trivial ?_
 refine EndsP.mk rfl rfl rfl ?_
 show bv _=bv _
 congr 2
 exact zez l p
structure To2 (h:Hp) (k:Nat):Prop where
 sewn:∀ i,i<k→SewOk h.st (zF h.sw i)
 froms:∀ i,0<i→i<k→(zF h.sw (i - 1)).fro<(zF h.sw i).fro
 toos:∀ i,i<k→∀ j,j<i→(zF h.sw j).too≠(zF h.sw i).too
theorem To2.zero (h:Hp):To2 h 0:=⟨none0,fun i _ hi=>absurd hi (Nat.not_lt_zero i),none0⟩
theorem To2.succ {h:Hp} {k:Nat} (n:To2 h k) (h1:SewOk h.st (zF h.sw k)) (h2:0<k→(zF h.sw (k - 1)).fro<(zF h.sw k).fro) (h3:∀ j,j<k→(zF h.sw j).too≠(zF h.sw k).too):To2 h (k+1):=by
 refine ⟨z0e n.sewn h1,fun i h0 hi=>?_,z0e n.toos h3⟩
 by_cases e:i=k
 ·subst e;exact h2 h0
 ·exact n.froms i h0 (by omega)
theorem SewOk.has {l:List Sht} {x:Sew} (h:SewOk l x):zcw l x.fro=true∧zcw l x.too=true:=by
 obtain ⟨a,b,ha,hb,e1,e2,_⟩:=h
 exact ⟨by rw [←e1];exact zhW ha,by rw [←e2];exact zhW hb⟩
theorem SewOk.pos {l:List Sht} (hR:Rising l) {x:Sew} (h:SewOk l x):z4p l x.fro≠z4p l x.too∧(zg l (z4p l x.fro)).paper=(zg l (z4p l x.too)).paper:=by
 obtain ⟨a,b,ha,hb,e1,e2,h1,h2⟩:=h
 rw [←e1,←e2,zcZ hR ha,zcZ hR hb]
 exact ⟨h1,h2⟩
theorem SewOk.of {l:List Sht} (hR:Rising l) {x:Sew} (h1:zcw l x.fro=true) (h2:zcw l x.too=true) (h3:z4p l x.fro≠z4p l x.too) (h4:(zg l (z4p l x.fro)).paper=(zg l (z4p l x.too)).paper):SewOk l x:=by
 obtain ⟨a1,a2⟩:=z8B hR h1
 obtain ⟨b1,b2⟩:=z8B hR h2
 exact ⟨_,_,a1,b1,a2,b2,h3,h4⟩
set_option maxHeartbeats 4000000 in
theorem zkk {h:Hp} (hz:SzH h):VP (sE r) 32 [.agg ((eHp h).map .p)] (iv (ckH h)):=by
 have hn:=hz.st
 have hm:=hz.sw
 refine VP.of (fn:=Tryz.f32) za (zH rfl) (by kernel_rfl) rfl rfl rfl ?_
 refine VSt.go za false [] 200 rfl AllP.n ?_
 refine zb (z00 0 (eHp h) rfl rfl) ?_
 refine zi 16 rfl (fun a1=>?_) (fun a1=>?_)
 ·have a1:=of_decide_eq_true a1
  refine VSt.go za false [] 200 rfl AllP.n ?_
  refine EndsP.mk rfl rfl rfl ?_
  rw [z0r fun h=>by have:=h.st;simp only [Int.ofNat_eq_natCast] at a1;omega];rfl
 have hl:h.st.length≤24:=by have a1:=of_decide_eq_false a1;simp only [Int.ofNat_eq_natCast] at a1;omega
 refine VSt.go za false [] 200 rfl AllP.n ?_
 refine VSt.cond rfl (fun a2=>?_) (fun a2=>?_)
 ·have a2:=of_decide_eq_true a2
  refine VSt.go za false [] 200 rfl AllP.n ?_
  refine EndsP.mk rfl rfl rfl ?_
  rw [z0r fun h=>by have:=h.sw;simp only [Int.ofNat_eq_natCast] at a2;omega];rfl
 have hl2:h.sw.length≤12:=by have a2:=of_decide_eq_false a2;simp only [Int.ofNat_eq_natCast] at a2;omega
 refine VSt.go za false [] 200 rfl AllP.n ?_
 refine z0W za h.st.length (by omega) [1,24] (fun k=>[(3,.map 0)]) (fun k=>[(0,.mapI (cF h.st k))]) (fun k=>To1 h.st k) rfl rfl rfl (fun _=>rfl) rfl rfl (z0L rfl (AImp.refl _) z0l) (LImp.refl _) (To1.zero _) (fun k hk hp=>?_) (fun hp=>?_)
 ·have hzk:=hz.each k hk
  have e1:(cF h.st k (zg h.st k).paper).getD 0=_:=ziz h.st k (by omega) _
  have hc1:=zmI h.st k (zg h.st k).paper
  have hck:=zob (r:=r) hzk
  have hi:inR ((cF h.st k (zg h.st k).paper).getD 0+1):=by rw [e1];unfold inR;simp only [Int.ofNat_eq_natCast];omega
  have e2:z7k h.st (k+1) (zg h.st k).paper=z7k h.st k (zg h.st k).paper+1:=by
   have:=ziz h.st (k+1) (by omega) (zg h.st k).paper
   have e3:(cF h.st (k+1) (zg h.st k).paper).getD 0=(cF h.st k (zg h.st k).paper).getD 0+1:=by
    show (bif (zg h.st k).paper==(zg h.st k).paper then some ((cF h.st k (zg h.st k).paper).getD 0+1) else _).getD 0=_
    rw [beq_self_eq_true];rfl
   rw [e3,e1] at this
   have:=Int.ofNat_inj.1 (show Int.ofNat (z7k h.st k (zg h.st k).paper+1)=_ from this)
   exact this.symm
  have e4:(bif (zg h.st k).paper==(zg h.st k).paper then some ((cF h.st k (zg h.st k).paper).getD 0+1) else cF h.st k (zg h.st k).paper).getD 0=Int.ofNat (z7k h.st k (zg h.st k).paper+1):=by
   rw [beq_self_eq_true]
   show (cF h.st k (zg h.st k).paper).getD 0+1=_
   rw [e1];rfl
  rcases zl6 (zg h.st k) with ⟨hO,e⟩ | ⟨hO,e⟩
  rotate_left
  ·rw [e] at hck
   refine VSt.go za false [] 200 rfl (AllP.c ‹_› (AllP.c rfl (AllP.c ‹_› AllP.n))) ?_
   refine z0E rfl rfl rfl rfl rfl rfl rfl rfl (hck) ?_
   refine VSt.go za false [] 200 rfl AllP.n ?_
   refine zl 39 rfl (fun q=>?_) (fun q=>?_)
   rotate_left
   ·exact absurd q (by decide)
   refine VSt.go za false [] 200 rfl AllP.n ?_
   refine EndsP.mk rfl rfl rfl ?_
   rw [z0r fun n=>hO (n.ok k hk)];rfl
  rw [e] at hck
  refine VSt.go za false [] 200 rfl (AllP.c ‹_› (AllP.c rfl (AllP.c ‹_› AllP.n))) ?_
  refine z0E rfl rfl rfl rfl rfl rfl rfl rfl (hck) ?_
  refine VSt.go za false [] 200 rfl AllP.n ?_
  refine zl 39 rfl (fun q=>?_) (fun q=>?_)
  ·exact absurd q (by decide)
  refine VSt.go za false [] 200 rfl AllP.n ?_
  refine zl 46 rfl (fun a3=>?_) (fun a3=>?_)
  ·have a3:=of_decide_eq_true a3
   refine VSt.go za false [] 200 rfl AllP.n ?_
   refine EndsP.mk rfl rfl rfl ?_
   rw [z0r fun n=>by
    have:=n.few1 hk
    rw [e4] at a3
    simp only [Int.ofNat_eq_natCast] at a3
    omega];rfl
  have hfew:z7k h.st (k+1) (zg h.st k).paper≤7:=by
   have a3:=of_decide_eq_false a3
   rw [e4] at a3
   simp only [Int.ofNat_eq_natCast] at a3
   omega
  refine VSt.go za false [] 200 rfl AllP.n ?_
  refine zl 49 rfl (fun a4=>?_) (fun a4=>?_)
  ·have h0:=n0 a4
   refine VSt.go za false [54] 200 rfl (AllP.c (by unfold inR;(try simp only [Int.ofNat_eq_natCast]);omega) AllP.n) ?_
   refine z02 53 (nv (k - 1)) rfl (z6i h0) ?_
   refine VSt.go za false [] 200 rfl (AllP.c (by omega) (AllP.c rfl AllP.n)) ?_
   refine VSt.cond rfl (fun a5=>?_) (fun a5=>?_)
   ·have a5:(zg h.st k).id≤(zg h.st (k - 1)).id:=of_decide_eq_true a5
    refine VSt.go za false [] 200 rfl AllP.n ?_
    refine EndsP.mk rfl rfl rfl ?_
    rw [z0r fun n=>by have:=n.rise k h0 hk;omega];rfl
   ·have a5:¬ (zg h.st k).id≤(zg h.st (k - 1)).id:=of_decide_eq_false a5
    refine VSt.go za false [] 200 rfl AllP.n ?_
    exact ⟨by refine z1a (ps:=[(0,0)]) ⟨rfl,rfl,(by repeat (first | exact zu | refine zk rfl rfl rfl ?_)),_,rfl,((LImp.refl _))⟩,hp.succ hO hfew fun _=>by omega⟩
  ·have h0:=n0' a4
   refine VSt.go za false [] 200 rfl AllP.n ?_
   exact ⟨by refine z1a (ps:=[(0,0)]) ⟨rfl,rfl,(by repeat (first | exact zu | refine zk rfl rfl rfl ?_)),_,rfl,((LImp.refl _))⟩,hp.succ hO hfew fun h1=>by omega⟩
 ·have hR:Rising h.st:=hp.rise
  refine VSt.go za false [] 200 rfl AllP.n ?_
  refine z05 (Vw.kp [1,64,65,66] [] rfl) ?_
  refine z0W za h.sw.length (by omega) [1,64] (fun k=>[]) (fun k=>[]) (fun k=>To2 h k) rfl rfl rfl (fun _=>rfl) rfl rfl z0l trivial (To2.zero _) (fun k hk hq=>?_) (fun hq=>?_)
  ·have hA:=z8B (s:=(zF h.sw k).fro) hR
   have hB:=z8B (s:=(zF h.sw k).too) hR
   have htl:(h.sw.take k).length=k:=by rw [List.length_take];omega
   have hcont:=zkh (r:=r) (b:=h.swB) (l:=h.sw.take k) (f:=99) (first:=[]) (cap:=[.p (.fp (zg4 (zF h.sw k)) 0)]) (p:=fun o=>o.too==(zF h.sw k).too) (by omega) rfl (fun _=>rfl) (fun x=>ziu x _)
   refine VSt.go za false [] 200 rfl (AllP.c ‹_› (AllP.c rfl AllP.n)) ?_
   refine zb (z00 0 (zg4 (zF h.sw k)) rfl rfl) ?_
   refine VSt.pc rfl rfl rfl rfl rfl rfl rfl rfl ((find_ok (b:=h.stB) (b2:=h.swB) (l:=h.st) (w:=h.sw) (s:=(zF h.sw k).fro) hR (by omega))) ?_
   refine VSt.go za false [] 200 rfl AllP.n ?_
   refine VSt.pc rfl rfl rfl rfl rfl rfl rfl rfl ((find_ok (b:=h.stB) (b2:=h.swB) (l:=h.st) (w:=h.sw) (s:=(zF h.sw k).too) hR (by omega))) ?_
   refine VSt.go za false [] 200 rfl AllP.n ?_
   refine zl 87 rfl (fun b1=>?_) (fun b1=>?_)
   ·refine VSt.go za false [] 200 rfl AllP.n ?_
    refine EndsP.mk rfl rfl rfl ?_
    rw [z0r fun n=>by have:=(n.sewn k hk).has.1;rw [nt b1] at this;cases this];rfl
   have c1:=nf b1
   refine VSt.go za false [] 200 rfl AllP.n ?_
   refine zl 91 rfl (fun b2=>?_) (fun b2=>?_)
   ·refine VSt.go za false [] 200 rfl AllP.n ?_
    refine EndsP.mk rfl rfl rfl ?_
    rw [z0r fun n=>by have:=(n.sewn k hk).has.2;rw [nt b2] at this;cases this];rfl
   have c2:=nf b2
   have d1:=(hA c1).1
   have d2:=(hB c2).1
   refine VSt.go za false [] 200 rfl AllP.n ?_
   refine zl 96 rfl (fun b3=>?_) (fun b3=>?_)
   ·have b3:z4p h.st (zF h.sw k).fro=z4p h.st (zF h.sw k).too:=Int.ofNat_inj.1 (eq_of_beq b3)
    refine VSt.go za false [] 200 rfl AllP.n ?_
    refine EndsP.mk rfl rfl rfl ?_
    rw [z0r fun n=>((n.sewn k hk).pos hR).1 b3];rfl
   have c3:z4p h.st (zF h.sw k).fro≠z4p h.st (zF h.sw k).too:=fun e=>ne_of_beq_false b3 (by rw [e])
   refine VSt.go za false [] 200 rfl (AllP.c ‹_› (AllP.c rfl (AllP.c ‹_› (AllP.c rfl AllP.n)))) ?_
   refine zl 111 rfl (fun b4=>?_) (fun b4=>?_)
   ·have b4:((zg h.st (z4p h.st (zF h.sw k).fro)).paper==(zg h.st (z4p h.st (zF h.sw k).too)).paper)=false:=nt b4
    refine VSt.go za false [] 200 rfl AllP.n ?_
    refine EndsP.mk rfl rfl rfl ?_
    rw [z0r fun n=>ne_of_beq_false b4 ((n.sewn k hk).pos hR).2];rfl
   have c4:(zg h.st (z4p h.st (zF h.sw k).fro)).paper=(zg h.st (z4p h.st (zF h.sw k).too)).paper:=eq_of_beq (nf b4)
   have hS:=SewOk.of hR c1 c2 c3 c4
   refine VSt.go za false [] 200 rfl AllP.n ?_
   refine zl 114 rfl (fun b5=>?x1) (fun b5=>?x2)
   case' x1 =>
    have h0:=n0 b5
    refine VSt.go za false [119] 200 rfl (AllP.c (by unfold inR;(try simp only [Int.ofNat_eq_natCast]);omega) AllP.n) ?_
    refine z02 118 (nv (k - 1)) rfl (z6i h0) ?_
    refine VSt.go za false [] 200 rfl (AllP.c (by omega) (AllP.c rfl AllP.n)) ?_
    refine zl 127 rfl (fun b6=>?_) (fun b6=>?_)
    ·have b6:(zF h.sw k).fro≤(zF h.sw (k - 1)).fro:=of_decide_eq_true b6
     refine VSt.go za false [] 200 rfl AllP.n ?_
     refine EndsP.mk rfl rfl rfl ?_
     rw [z0r fun n=>by have:=n.froms k h0 hk;omega];rfl
    have hri:0<k→(zF h.sw (k - 1)).fro<(zF h.sw k).fro:=fun _=>by have b6:¬ (zF h.sw k).fro≤(zF h.sw (k - 1)).fro:=of_decide_eq_false b6;omega
   case' x2 =>
    have hri:0<k→(zF h.sw (k - 1)).fro<(zF h.sw k).fro:=fun h=>absurd (n0' b5) (by omega)
   all_goals
    refine VSt.go za false [132] 200 rfl (AllP.c (by omega) (AllP.c (by omega) (AllP.c (fun _ _=>rfl) AllP.n))) ?_
    refine z02 131 (.p (zdw h.swB (h.sw.take k))) rfl (by
     show AImp _ (.p (.lst _ h.swB (h.sw.take k).length _))
     rw [htl]
     exact AImp.lst fun j hj=>by
      show fW h.sw (0+j)=fW (h.sw.take k) j
      unfold fW zF
      rw [Nat.zero_add]
      simp only [List.getD_eq_getElem?_getD]
      rw [List.getElem?_take,if_pos (show j<k from hj)]) ?_
    refine VSt.go za false [] 200 rfl AllP.n ?_
    refine z0E rfl rfl rfl rfl rfl rfl rfl rfl (hcont) ?_
    refine VSt.go za false [] 200 rfl AllP.n ?_
    refine VSt.cond rfl (fun b7=>?_) (fun b7=>?_)
    ·have b7:(h.sw.take k).any (fun o=>o.too==(zF h.sw k).too)=true:=b7
     refine VSt.go za false [] 200 rfl AllP.n ?_
     refine EndsP.mk rfl rfl rfl ?_
     rw [z0r fun n=>by
      obtain ⟨o,ho,e⟩:=List.any_eq_true.1 b7
      obtain ⟨j,hj,rfl⟩:=z0I (d:=default) ho
      rw [htl] at hj
      have e:((h.sw.take k).getD j default).too=(zF h.sw k).too:=eq_of_beq e
      refine n.toos k hk j hj ?_
      rw [←e]
      unfold zF
      simp only [List.getD_eq_getElem?_getD]
      rw [List.getElem?_take,if_pos hj]];rfl
    ·have b7:(h.sw.take k).any (fun o=>o.too==(zF h.sw k).too)=false:=b7
     refine VSt.go za false [] 200 rfl AllP.n ?_
     refine ⟨by (refine Vw.drop (by repeat (first | exact zu | refine zk rfl rfl rfl ?_ | refine zA rfl ‹_› (zt _ ‹_›) ?_))),hq.succ hS hri fun j hj e=>?_⟩
     rw [List.any_eq_false] at b7
     refine b7 ((h.sw.take k).getD j default) (z0J (by omega)) ?_
     rw [beq_iff_eq,←e]
     unfold zF
     simp only [List.getD_eq_getElem?_getD]
     rw [List.getElem?_take,if_pos hj]
  ·refine VSt.go za false [] 200 rfl AllP.n ?_
   refine EndsP.mk rfl rfl rfl ?_
   rw [zeL ⟨hl,hl2,hp.ok,hR,fun i _=>zki hp.few _,hq.sewn,hq.froms,hq.toos⟩];rfl
end Go.Proofs.YtdpipdniklognaaGreat
/- Walks: the reference's check of a heap. -/
set_option maxRecDepth 100000
namespace Go.Proofs.YtdpipdniklognaaGreat
variable {r:Rm}
def fL (l:List Int):Nat→List PV:=fun q=>[.int .i64 (l.getD q 0)]
theorem z6C (l:List Int) (y:Int) (q:Nat) (hq:q<l.length+1):(bif Nat.blt q l.length then fL l q else ([PV.int .i64 y].drop ((q - l.length)*1)).take 1)=fL (l++[y]) q:=by
 unfold fL
 by_cases e:q<l.length
 ·rw [ziC e]
  simp only [cond_true,List.getD_eq_getElem?_getD]
  rw [List.getElem?_append_left e]
 ·have:q=l.length:=by omega
  subst this
  rw [zkm e,Nat.sub_self]
  simp
def zfp {α β : Type} (l:List α) (p : α → Bool) (f : α → β) (k:Nat):List β :=((l.take k).filter p).map f
theorem znD {α β : Type} [Inhabited α] {l:List α} {p : α → Bool} {f : α → β} {k:Nat} (h:k<l.length) (hp:p (l.getD k default)=true):zfp l p f (k+1)=zfp l p f k++[f (l.getD k default)]:=by
 unfold zfp
 rw [z2X l h,List.filter_append,List.map_append,show [l.getD k default].filter p=[l.getD k default] from List.filter_cons_of_pos hp];rfl
theorem znE {α β : Type} [Inhabited α] {l:List α} {p : α → Bool} {f : α → β} {k:Nat} (h:k<l.length) (hp:p (l.getD k default)=false):zfp l p f (k+1)=zfp l p f k:=by
 unfold zfp
 rw [z2X l h,List.filter_append,List.map_append,show [l.getD k default].filter p=[] from List.filter_cons_of_neg (by rw [hp];decide)];simp
theorem zjv {α β : Type} {l:List α} {p : α → Bool} {f : α → β}:zfp l p f l.length=(l.filter p).map f:=by
 unfold zfp;rw [List.take_length]
theorem zju {α β : Type} {l:List α} {p : α → Bool} {f : α → β} {k:Nat}:(zfp l p f k).length≤l.length:=by
 unfold zfp
 rw [List.length_map]
 exact Nat.le_trans (List.length_filter_le _ _) (List.length_take_le' ..)
def eL (l:List Int):PV:=z7h l.isEmpty l
theorem z8W {l:List Int} {n:Nat} (hn:n=l.length):(AV.p (.lst 3 (true&&Nat.beq n 0) n (fL l))) = .p (eL l):=by
 subst hn
 cases l <;> rfl
theorem zkI {h:Hp} {id:Int} (hn:h.st.length<9223372036854775808):VP (sE r) 70 [.agg ((eHp h).map .p),iv id] (iv (z7z h.st fun s=>s.id==id)):=by
 refine VP.of (fn:=Tryz.f70) za (zH rfl) (by kernel_rfl) rfl rfl rfl ?_
 refine VSt.go za false [] 200 rfl AllP.n ?_
 refine z05 (z00 0 (eHp h) rfl rfl) ?_
 refine z09 (ti:=5) h.st.length [1,2] (fun _=>[]) (fun _=>[]) (fun k=>∀ i,i<k→((zg h.st i).id==id)=false) rfl rfl z0l trivial none0 (fun k hk hp=>?_)
 refine VSt.go za false [] 200 rfl AllP.n ?_
 refine VSt.cond rfl (fun g=>?_) (fun g=>?_)
 ·have g:=nlt g
  refine VSt.go za false [] 200 rfl (AllP.c ‹_› (AllP.c rfl AllP.n)) ?_
  refine VSt.cond rfl (fun h1=>?_) (fun h1=>?_)
  ·have h1:((zg h.st k).id==id)=true:=h1
   refine VSt.go za false [] 200 rfl AllP.n ?_
   refine EndsP.mk rfl rfl rfl ?_
   rw [z7y (p:=fun s:Sht=>s.id==id) g h1 hp];rfl
  ·have h1:((zg h.st k).id==id)=false:=h1
   refine VSt.go za false [] 200 rfl (AllP.c (by unfold inR;(try simp only [Int.ofNat_eq_natCast]);omega) AllP.n) ?_
   exact ⟨g,by (refine Vw.drop (by repeat (first | exact zu | refine zk rfl rfl rfl ?_ | refine zA rfl ‹_› (zt _ ‹_›) ?_))),z0e hp h1⟩
 ·have g:k=h.st.length:=by have:=nge g;omega
  subst g
  refine VSt.go za false [] 200 rfl AllP.n ?_
  refine EndsP.mk rfl rfl rfl ?_
  rw [z8y (p:=fun s:Sht=>s.id==id) hp];rfl
def zn8 (l:List Sht) (p:Int):List Int:=(l.filter fun s=>s.paper==p).map (·.id)
theorem zfm {h:Hp} {p:Int} (hn:h.st.length<1000000):VP (sE r) 66 [.agg ((eHp h).map .p),iv p] (.p (eL (zn8 h.st p))):=by
 refine VP.of (fn:=Tryz.f66) za (zH rfl) (by kernel_rfl) rfl rfl rfl ?_
 refine VSt.go za false [] 200 rfl AllP.n ?_
 refine z05 (z00 0 (eHp h) rfl rfl) ?_
 refine z05 (z3K 0 1 (fL []) 3 rfl) ?_
 refine z09 (ti:=6) h.st.length [1,2] (fun k=>[(5,.acc true 0 1 (zfp h.st (fun s=>s.paper==p) (·.id) k).length)]) (fun k=>[(0,.acc (zfp h.st (fun s=>s.paper==p) (·.id) k).length 1 (fL (zfp h.st (fun s=>s.paper==p) (·.id) k)) 3)]) (fun _=>True) rfl rfl (z0L rfl z1k z0l) (LImp.refl _) trivial (fun k hk _=>?_)
 have hlen:=zju (l:=h.st) (p:=fun s=>s.paper==p) (f:=(·.id)) (k:=k)
 refine VSt.go za false [] 200 rfl AllP.n ?_
 refine VSt.cond rfl (fun g=>?_) (fun g=>?_)
 ·have g:=nlt g
  refine VSt.go za false [] 200 rfl (AllP.c ‹_› (AllP.c rfl AllP.n)) ?_
  refine VSt.cond rfl (fun h1=>?_) (fun h1=>?_)
  ·have h1:((zg h.st k).paper==p)=true:=h1
   have e:=znD (p:=fun s:Sht=>s.paper==p) (f:=(·.id)) g h1
   have hN:=congrArg List.length e
   rw [List.length_append,List.length_singleton] at hN
   refine VSt.go za false [] 200 rfl (AllP.c ‹_› (AllP.c rfl (AllP.c (by omega) (AllP.c (by omega) (AllP.c (fun q hq=>match q,hq with | 0,_=>rfl) (AllP.c rfl (AllP.c rfl (AllP.c rfl (AllP.c (by unfold inR;(try simp only [Int.ofNat_eq_natCast]);omega) AllP.n))))))))) ?_
   refine ⟨g,?_,trivial⟩
   exact z1a (ps:=[(0,1)]) ⟨rfl,rfl,(by repeat (first | exact zu | refine zk rfl rfl rfl ?_ | refine z0X rfl rfl z3q ?_ | refine z0X rfl rfl (AImp.acc hN.symm (fun _=>rfl)) ?_)),_,rfl,⟨rfl,BImp.acc hN.symm (fun q hq=>by rw [e];exact z6C _ _ q hq),trivial⟩⟩
  ·have h1:((zg h.st k).paper==p)=false:=h1
   have e:=znE (p:=fun s:Sht=>s.paper==p) (f:=(·.id)) g h1
   refine VSt.go za false [] 200 rfl (AllP.c (by unfold inR;(try simp only [Int.ofNat_eq_natCast]);omega) AllP.n) ?_
   refine ⟨g,?_,trivial⟩
   dsimp only
   rw [e]
   refine z1a (ps:=[(0,0)]) ⟨rfl,rfl,(by repeat (first | exact zu | refine zk rfl rfl rfl ?_)),_,rfl,((LImp.refl _))⟩
 ·have g:k=h.st.length:=by have:=nge g;omega
  subst g
  rw [zjv]
  refine VSt.go za false [31] 200 rfl AllP.n ?_
  refine zb (Vw.kp [5] [(0,0)] rfl) ?_
  refine zb (z0G 0 rfl rfl ⟨Nat.le_refl _,rfl⟩) ?_
  refine VSt.go za false [] 200 rfl AllP.n ?_
  refine EndsP.mk rfl rfl rfl ?_
  exact z8W rfl
theorem zmN (l:List Sht) (p:Int):(zn8 l p).length=cnt l p:=by unfold zn8 cnt;rw [List.length_map]
structure To3 (l:List Sht) (k:Nat):Prop where
 ok:∀ i,i<k→OkS (zg l i)
 few:∀ i,i<k→cnt l (zg l i).paper≤7
 rise:∀ i,0<i→i<k→(zg l (i - 1)).id<(zg l i).id
theorem To3.zero (l:List Sht):To3 l 0:=⟨none0,none0,fun i _ hi=>absurd hi (Nat.not_lt_zero i)⟩
theorem To3.succ {l:List Sht} {k:Nat} (h:To3 l k) (h1:OkS (zg l k)) (h2:cnt l (zg l k).paper≤7) (h3:0<k→(zg l (k - 1)).id<(zg l k).id):To3 l (k+1):=by
 refine ⟨z0e h.ok h1,z0e h.few h2,fun i h0 hi=>?_⟩
 by_cases e:i=k
 ·subst e;exact h3 h0
 ·exact h.rise i h0 (by omega)
theorem zhQ {l:List Sht} {s:Int}:decide (z7z l (fun x=>x.id==s)<0) = !zcw l s:=by
 have h:=zez l (fun x=>x.id==s)
 unfold zcw
 rw [←h]
 by_cases c:0≤z7z l (fun x=>x.id==s)
 ·rw [decide_eq_true c,decide_eq_false (by omega)];rfl
 ·rw [decide_eq_false c,decide_eq_true (by omega)];rfl
theorem zhP {l:List Sht} (hR:Rising l) {s:Int} (h:zcw l s=true):z7z l (fun x=>x.id==s)=Int.ofNat (z4p l s):=by
 obtain ⟨h1,h2⟩:=z8B hR h
 refine z7y h1 (beq_iff_eq.2 h2) fun i hi=>beq_false_of_ne fun e=>?_
 have h3:=hR.lt hi h1
 have e:(zg l i).id=s:=e
 omega
set_option maxHeartbeats 4000000 in
theorem zh0 {h:Hp} (hz:SzH h):VP (sE r) 61 [.agg ((eHp h).map .p)] (iv (ckH h)):=by
 have hn:=hz.st
 have hm:=hz.sw
 refine VP.of (fn:=Tryz.f61) za (zH rfl) (by kernel_rfl) rfl rfl rfl ?_
 refine VSt.go za false [] 200 rfl AllP.n ?_
 refine zb (z00 0 (eHp h) rfl rfl) ?_
 refine zi 14 rfl (fun a1=>?_) (fun a1=>?_)
 ·have a1:=of_decide_eq_true a1
  refine VSt.go za false [] 200 rfl AllP.n ?_
  refine EndsP.mk rfl rfl rfl ?_
  rw [z0r fun h=>by have:=h.st;simp only [Int.ofNat_eq_natCast] at a1;omega];rfl
 have hl:h.st.length≤24:=by have a1:=of_decide_eq_false a1;simp only [Int.ofNat_eq_natCast] at a1;omega
 refine VSt.go za false [] 200 rfl AllP.n ?_
 refine VSt.cond rfl (fun a2=>?_) (fun a2=>?_)
 ·have a2:=of_decide_eq_true a2
  refine VSt.go za false [] 200 rfl AllP.n ?_
  refine EndsP.mk rfl rfl rfl ?_
  rw [z0r fun h=>by have:=h.sw;simp only [Int.ofNat_eq_natCast] at a2;omega];rfl
 have hl2:h.sw.length≤12:=by have a2:=of_decide_eq_false a2;simp only [Int.ofNat_eq_natCast] at a2;omega
 refine VSt.go za false [] 200 rfl AllP.n ?_
 refine z09 (ti:=3) h.st.length [1] (fun _=>[]) (fun _=>[]) (fun k=>To3 h.st k) rfl rfl z0l trivial (To3.zero _) (fun k hk hp=>?_)
 refine VSt.go za false [] 200 rfl AllP.n ?_
 refine VSt.cond rfl (fun g=>?_) (fun g=>?_)
 ·have g:=nlt g
  have hck:=zlT (r:=r) (zg h.st k)
  have hbu:=zfm (r:=r) (h:=h) (p:=(zg h.st k).paper) (by omega)
  have hbl:=zmN h.st (zg h.st k).paper
  rcases zl6 (zg h.st k) with ⟨hO,e⟩ | ⟨hO,e⟩
  rotate_left
  ·rw [e] at hck
   refine VSt.go za false [] 200 rfl (AllP.c ‹_› (AllP.c rfl AllP.n)) ?_
   refine z0E rfl rfl rfl rfl rfl rfl rfl rfl (hck) ?_
   refine VSt.go za false [] 200 rfl AllP.n ?_
   refine zl 35 rfl (fun q=>?_) (fun q=>?_)
   rotate_left
   ·exact absurd q (by decide)
   refine VSt.go za false [] 200 rfl AllP.n ?_
   refine EndsP.mk rfl rfl rfl ?_
   rw [z0r fun n=>hO (n.ok k g)];rfl
  rw [e] at hck
  refine VSt.go za false [] 200 rfl (AllP.c ‹_› (AllP.c rfl AllP.n)) ?_
  refine z0E rfl rfl rfl rfl rfl rfl rfl rfl (hck) ?_
  refine VSt.go za false [] 200 rfl AllP.n ?_
  refine zl 35 rfl (fun q=>?_) (fun q=>?_)
  ·exact absurd q (by decide)
  refine VSt.go za false [] 200 rfl AllP.n ?_
  refine zl 38 rfl (fun a4=>?x1) (fun a4=>?x2)
  case' x1 =>
   have h0:=n0 a4
   refine VSt.go za false [43] 200 rfl (AllP.c (by unfold inR;(try simp only [Int.ofNat_eq_natCast]);omega) AllP.n) ?_
   refine z02 42 (nv (k - 1)) rfl (z6i h0) ?_
   refine VSt.go za false [] 200 rfl (AllP.c (by omega) (AllP.c rfl AllP.n)) ?_
   refine zl 51 rfl (fun a5=>?_) (fun a5=>?_)
   ·have a5:(zg h.st k).id≤(zg h.st (k - 1)).id:=of_decide_eq_true a5
    refine VSt.go za false [] 200 rfl AllP.n ?_
    refine EndsP.mk rfl rfl rfl ?_
    rw [z0r fun n=>by have:=n.rise k h0 g;omega];rfl
   have hri:0<k→(zg h.st (k - 1)).id<(zg h.st k).id:=fun _=>by have a5:¬ (zg h.st k).id≤(zg h.st (k - 1)).id:=of_decide_eq_false a5;omega
  case' x2 =>
   have hri:0<k→(zg h.st (k - 1)).id<(zg h.st k).id:=fun h=>absurd (n0' a4) (by omega)
  all_goals
   refine VSt.go za false [] 200 rfl AllP.n ?_
   refine z0E rfl rfl rfl rfl rfl rfl rfl rfl (hbu) ?_
   refine VSt.go za false [] 200 rfl AllP.n ?_
   refine VSt.cond rfl (fun a6=>?_) (fun a6=>?_)
   ·have a6:(7:Int)<Int.ofNat (zn8 h.st (zg h.st k).paper).length:=of_decide_eq_true a6
    refine VSt.go za false [] 200 rfl AllP.n ?_
    refine EndsP.mk rfl rfl rfl ?_
    rw [z0r fun n=>by
     have:=n.few k g
     rw [hbl] at a6
     simp only [Int.ofNat_eq_natCast] at a6
     omega];rfl
   ·have a6:¬ (7:Int)<Int.ofNat (zn8 h.st (zg h.st k).paper).length:=of_decide_eq_false a6
    rw [hbl] at a6
    refine VSt.go za false [] 200 rfl (AllP.c (by unfold inR;(try simp only [Int.ofNat_eq_natCast]);omega) AllP.n) ?_
    exact ⟨g,by (refine Vw.drop (by repeat (first | exact zu | refine zk rfl rfl rfl ?_ | refine zA rfl ‹_› (zt _ ‹_›) ?_))),hp.succ hO (by simp only [Int.ofNat_eq_natCast] at a6;omega) hri⟩
 have g:k=h.st.length:=by have:=nge g;omega
 subst g
 have hR:Rising h.st:=hp.rise
 refine VSt.go za false [] 200 rfl AllP.n ?_
 refine z09 (ti:=5) h.sw.length [1] (fun _=>[]) (fun _=>[]) (fun k=>To2 h k) rfl rfl z0l trivial (To2.zero _) (fun k hk hq=>?_)
 refine VSt.go za false [] 200 rfl AllP.n ?_
 refine VSt.cond rfl (fun g=>?_) (fun g=>?_)
 ·have g:=nlt g
  have hA:=z8B (s:=(zF h.sw k).fro) hR
  have hB:=z8B (s:=(zF h.sw k).too) hR
  have i1:=zkI (r:=r) (h:=h) (id:=(zF h.sw k).fro) (by omega)
  have i2:=zkI (r:=r) (h:=h) (id:=(zF h.sw k).too) (by omega)
  by_cases c1:zcw h.st (zF h.sw k).fro=true
  rotate_left
  ·have d1:=zhQ (l:=h.st) (s:=(zF h.sw k).fro)
   rw [Bool.not_eq_true] at c1
   rw [c1] at d1
   refine VSt.go za false [] 200 rfl (AllP.c ‹_› (AllP.c rfl AllP.n)) ?_
   refine VSt.pc rfl rfl rfl rfl rfl rfl rfl rfl (i1) ?_
   refine VSt.go za false [] 200 rfl AllP.n ?_
   refine VSt.pc rfl rfl rfl rfl rfl rfl rfl rfl (i2) ?_
   refine VSt.go za false [] 200 rfl AllP.n ?_
   refine zl 81 rfl (fun b1=>?_) (fun b1=>?_)
   rotate_left
   ·exact absurd (d1.symm.trans b1) (by decide)
   refine VSt.go za false [] 200 rfl AllP.n ?_
   refine EndsP.mk rfl rfl rfl ?_
   rw [z0r fun n=>by have:=(n.sewn k g).has.1;rw [c1] at this;cases this];rfl
  rw [zhP hR c1] at i1
  by_cases c2:zcw h.st (zF h.sw k).too=true
  rotate_left
  ·have d1:=zhQ (l:=h.st) (s:=(zF h.sw k).too)
   rw [Bool.not_eq_true] at c2
   rw [c2] at d1
   refine VSt.go za false [] 200 rfl (AllP.c ‹_› (AllP.c rfl AllP.n)) ?_
   refine VSt.pc rfl rfl rfl rfl rfl rfl rfl rfl (i1) ?_
   refine VSt.go za false [] 200 rfl AllP.n ?_
   refine VSt.pc rfl rfl rfl rfl rfl rfl rfl rfl (i2) ?_
   refine VSt.go za false [] 200 rfl AllP.n ?_
   refine zl 81 rfl (fun b1=>?_) (fun b1=>?_)
   ·have b1:=of_decide_eq_true b1
    simp only [Int.ofNat_eq_natCast] at b1
    omega
   refine VSt.go za false [] 200 rfl AllP.n ?_
   refine zl 85 rfl (fun b2=>?_) (fun b2=>?_)
   rotate_left
   ·exact absurd (d1.symm.trans b2) (by decide)
   refine VSt.go za false [] 200 rfl AllP.n ?_
   refine EndsP.mk rfl rfl rfl ?_
   rw [z0r fun n=>by have:=(n.sewn k g).has.2;rw [c2] at this;cases this];rfl
  rw [zhP hR c2] at i2
  have d1:=(hA c1).1
  have d2:=(hB c2).1
  refine VSt.go za false [] 200 rfl (AllP.c ‹_› (AllP.c rfl AllP.n)) ?_
  refine zb (z00 0 (zg4 (zF h.sw k)) rfl rfl) ?_
  refine VSt.pc rfl rfl rfl rfl rfl rfl rfl rfl (i1) ?_
  refine VSt.go za false [] 200 rfl AllP.n ?_
  refine VSt.pc rfl rfl rfl rfl rfl rfl rfl rfl (i2) ?_
  refine VSt.go za false [] 200 rfl AllP.n ?_
  refine zl 81 rfl (fun b1=>?_) (fun b1=>?_)
  ·have b1:=of_decide_eq_true b1
   simp only [Int.ofNat_eq_natCast] at b1
   omega
  refine VSt.go za false [] 200 rfl AllP.n ?_
  refine zl 85 rfl (fun b2=>?_) (fun b2=>?_)
  ·have b2:=of_decide_eq_true b2
   simp only [Int.ofNat_eq_natCast] at b2
   omega
  refine VSt.go za false [] 200 rfl AllP.n ?_
  refine zl 90 rfl (fun b3=>?_) (fun b3=>?_)
  ·have b3:z4p h.st (zF h.sw k).fro=z4p h.st (zF h.sw k).too:=Int.ofNat_inj.1 (eq_of_beq b3)
   refine VSt.go za false [] 200 rfl AllP.n ?_
   refine EndsP.mk rfl rfl rfl ?_
   rw [z0r fun n=>((n.sewn k g).pos hR).1 b3];rfl
  have c3:z4p h.st (zF h.sw k).fro≠z4p h.st (zF h.sw k).too:=fun e=>ne_of_beq_false b3 (by rw [e])
  refine VSt.go za false [] 200 rfl (AllP.c ‹_› (AllP.c rfl (AllP.c ‹_› (AllP.c rfl AllP.n)))) ?_
  refine zl 105 rfl (fun b4=>?_) (fun b4=>?_)
  ·have b4:((zg h.st (z4p h.st (zF h.sw k).fro)).paper==(zg h.st (z4p h.st (zF h.sw k).too)).paper)=false:=nt b4
   refine VSt.go za false [] 200 rfl AllP.n ?_
   refine EndsP.mk rfl rfl rfl ?_
   rw [z0r fun n=>ne_of_beq_false b4 ((n.sewn k g).pos hR).2];rfl
  have c4:(zg h.st (z4p h.st (zF h.sw k).fro)).paper=(zg h.st (z4p h.st (zF h.sw k).too)).paper:=eq_of_beq (nf b4)
  have hS:=SewOk.of hR c1 c2 c3 c4
  refine VSt.go za false [] 200 rfl AllP.n ?_
  refine zl 108 rfl (fun b5=>?y1) (fun b5=>?y2)
  case' y1 =>
   have h0:=n0 b5
   refine VSt.go za false [113] 200 rfl (AllP.c (by unfold inR;(try simp only [Int.ofNat_eq_natCast]);omega) AllP.n) ?_
   refine z02 112 (nv (k - 1)) rfl (z6i h0) ?_
   refine VSt.go za false [] 200 rfl (AllP.c (by omega) (AllP.c rfl AllP.n)) ?_
   refine VSt.cond rfl (fun b6=>?_) (fun b6=>?_)
   ·have b6:(zF h.sw k).fro≤(zF h.sw (k - 1)).fro:=of_decide_eq_true b6
    refine VSt.go za false [] 200 rfl AllP.n ?_
    refine EndsP.mk rfl rfl rfl ?_
    rw [z0r fun n=>by have:=n.froms k h0 g;omega];rfl
   have hri:0<k→(zF h.sw (k - 1)).fro<(zF h.sw k).fro:=fun _=>by have b6:¬ (zF h.sw k).fro≤(zF h.sw (k - 1)).fro:=of_decide_eq_false b6;omega
  case' y2 =>
   have hri:0<k→(zF h.sw (k - 1)).fro<(zF h.sw k).fro:=fun h=>absurd (n0' b5) (by omega)
  all_goals
   refine VSt.go za false [] 200 rfl AllP.n ?_
   refine z09 (ti:=9) k [1,5,6] (fun _=>[]) (fun _=>[]) (fun j=>∀ i,i<j→(zF h.sw i).too≠(zF h.sw k).too) rfl rfl z0l trivial none0 (fun j hj hs=>?_)
   refine VSt.go za false [] 200 rfl AllP.n ?_
   refine VSt.cond rfl (fun g2=>?_) (fun g2=>?_)
   ·have g2:=nlt g2
    have hjl:j<h.sw.length:=by omega
    refine VSt.go za false [] 200 rfl (AllP.c ‹_› (AllP.c rfl AllP.n)) ?_
    refine VSt.cond rfl (fun b7=>?_) (fun b7=>?_)
    ·have b7:((zF h.sw j).too==(zF h.sw k).too)=true:=b7
     refine VSt.go za false [] 200 rfl AllP.n ?_
     refine EndsP.mk rfl rfl rfl ?_
     rw [z0r fun n=>n.toos k g j g2 (eq_of_beq b7)];rfl
    ·have b7:((zF h.sw j).too==(zF h.sw k).too)=false:=b7
     refine VSt.go za false [] 200 rfl (AllP.c (by unfold inR;(try simp only [Int.ofNat_eq_natCast]);omega) AllP.n) ?_
     exact ⟨g2,by (refine Vw.drop (by repeat (first | exact zu | refine zk rfl rfl rfl ?_ | refine zA rfl ‹_› (zt _ ‹_›) ?_))),z0e hs (ne_of_beq_false b7)⟩
   ·have g2:j=k:=by have:=nge g2;omega
    subst g2
    refine VSt.go za false [] 200 rfl (AllP.c (by unfold inR;(try simp only [Int.ofNat_eq_natCast]);omega) AllP.n) ?_
    exact ⟨g,by (refine Vw.drop (by repeat (first | exact zu | refine zk rfl rfl rfl ?_ | refine zA rfl ‹_› (zt _ ‹_›) ?_))),hq.succ hS hri hs⟩
 have g:k=h.sw.length:=by have:=nge g;omega
 subst g
 refine VSt.go za false [] 200 rfl AllP.n ?_
 refine EndsP.mk rfl rfl rfl ?_
 rw [zeL ⟨hl,hl2,hp.ok,hR,hp.few,hq.sewn,hq.froms,hq.toos⟩];rfl
end Go.Proofs.YtdpipdniklognaaGreat
/- Walks: sheets and threads copied, and taken away. -/
set_option maxRecDepth 100000
namespace Go.Proofs.YtdpipdniklognaaGreat
variable {r:Rm}
theorem Vw.empAcc {E:Env} {d i sz sz' sz2:Nat} {f g:Nat→List PV} {t t':TypeId}:Vw E [] [(d,.sl i sz 0 0 0 2)] [(i,.arr 0 sz' f t)] [(d,.acc false i sz 0)] [(i,.acc 0 sz2 g t')]:=by
 intro T S Z j hS hF
 obtain ⟨b,hj,vs,gg,h1,h2,h3,h4⟩:=hS.blk i (.arr 0 sz' f t) (by simp [bk]) id
 have hr:=hS.unrom hj
 refine ⟨ZB Z b,fun _=>none,⟨fun c hc=>?_,fun k c hk=>(by cases hk),fun k k' c hk=>(by cases hk),fun k hk=>rfl,fun k vb hk=>?_,fun c q hc=>⟨(hS.rom c q hc).1,fun k hk=>(by cases hk)⟩⟩,fun x a ha=>?_,⟨Nat.le_refl _,fun _ _ _=>rfl,fun c hc=>.inl hc,fun c hc=>?_,fun k c hk=>(by cases hk),Nat.le_refl _,fun _ h _ _=>h⟩,fun k hk=>(by cases hk)⟩
 ·rcases hc with hc | rfl
  ·exact hS.zlt c hc
  ·exact (hS.jlt i _ hj).1
 ·simp only [bk] at hk
  cases hb:Nat.beq i k with
  | true=>rw [hb] at hk;cases hk;exact .inl rfl
  | false=>rw [hb] at hk;cases hk
 ·simp only [ak] at ha
  cases hb:Nat.beq d x with
  | true =>
   rw [hb] at ha
   cases ha
   obtain ⟨v,h5,h6⟩:=hF x (.sl i sz 0 0 0 2) (by simp only [ak];rw [hb];rfl)
   refine ⟨v,h5,?_⟩
   cases h6 with
   | sl h =>
    rw [hj] at h;cases h
    exact .accE (.inr rfl) ((z2J hr).trans h1) (by simp)
  | false=>rw [hb] at ha;cases ha
 ·rcases hc with hc | rfl
  ·exact .inl hc
  ·exact .inr (.inr ⟨i,hj⟩)
theorem zkA {i sz m m' c c':Nat} (h:m=m') (h2:c=c'):AImp (.sl i sz 0 m c 0) (.sl i sz 0 m' c' 0):=by subst h h2;exact AImp.refl _
theorem zmo {b:Bool} {l:List Sht} {f:Nat} {first cap:List AV} {p:Sht→Bool} (hn:l.length<9223372036854775808) (hon:(AV.fn f first cap).only (olds [])=true) (hoc:∀ x,z06 (olds []) (first++([.agg ((y5 x).map .p)]++cap))=true) (hf:∀ x,VP (sE r) f (first++([.agg ((y5 x).map .p)]++cap)) (bv (p x))) :
  VP (sE r) 122 [.p (z1t b l),.fn f first cap] (iv (z7z l p)):=by
 refine VP.of (fn:=Tryz.f122) za (zH rfl) (by kernel_rfl) rfl rfl rfl ?_
 refine VSt.run za false [] 200 rfl trivial ?_
 refine z6E za l.length (by omega) (fun _=>[(0,.p (z1t b l)),(1,.fn f first cap)]) (fun _=>[]) (fun k=>∀ i,i<k→p (l.getD i default)=false) rfl rfl (fun _=>rfl) ?_ (fun i hi=>absurd hi (Nat.not_lt_zero i)) (fun k hk hp=>?_) (fun hp=>?_)
 ·(refine Vw.drop (by repeat (first | exact zu | refine zk rfl rfl rfl ?_ | refine zA rfl ‹_› (zt _ ‹_›) ?_)))
 ·refine VSt.run za false [] 200 rfl (⟨hk,rfl⟩) ?_
  refine z5U (hf (l.getD k default)) rfl rfl rfl rfl rfl rfl (hoc _) ?_
  refine VSt.run za false [] 200 rfl trivial ?_
  refine VSt.cond rfl (fun hc=>?_) (fun hc=>?_)
  ·refine VSt.run za false [] 200 rfl trivial ?_
   refine EndsP.mk rfl rfl rfl ?_
   rw [z7y hk hc hp];rfl
  ·refine VSt.run za false [] 200 rfl trivial ?_
   refine ⟨by (refine Vw.drop (by repeat (first | exact zu | refine zk rfl rfl rfl ?_ | refine zA rfl ‹_› (zt _ ‹_›) ?_))),fun i hi=>?_⟩
   by_cases e:i=k
   ·subst e;exact hc
   ·exact hp i (by omega)
 ·refine VSt.run za false [] 200 rfl trivial ?_
  refine EndsP.mk rfl rfl rfl ?_
  rw [z8y hp];rfl
theorem zil {b:Bool} {l:List Sht} (hb:b=true→l=[]) (hn:l.length<1000000):VC (sE r) [] 109 [.p (z1t b l)] [] (fun a L=>a = .acc b 0 6 l.length∧L=[(0,.acc l.length 6 (fS l) 74)]):=by
 refine VC.of (fn:=Tryz.f109) za (zH rfl) (by kernel_rfl) rfl rfl ?_
 refine VSt.run za false [] 200 rfl trivial ?_
 refine VSt.cond rfl (fun h=>?_) (fun h=>?_)
 ·refine z05 (z3K 0 6 (fS l) 74 rfl) ?_
  refine VSt.run za false [] 200 rfl trivial ?_
  have e:=hb h
  subst e;subst h
  exact ⟨rfl,_,[(0,0)],_,_,rfl,⟨rfl,rfl,z0X rfl rfl z1k zu,_,rfl,LImp.refl _⟩,rfl,rfl⟩
 ·subst h
  cases hl:l with
  | nil =>
   subst hl
   refine VSt.go za true [2] 200 rfl (AllP.c rfl AllP.n) ?_
   refine zb (Vw.trans (z1a (ps:=[(0,0)]) (F0:=[(7,.sl 0 6 0 0 0 2)]) (L0:=[(0,.arr 0 6 (fun _=>[]) 74)]) ⟨rfl,rfl,(by repeat (first | exact zu | refine zk rfl rfl rfl ?_)),_,rfl,LImp.refl _⟩) (Vw.empAcc (sz2:=6) (g:=fS []) (t':=74))) ?_
   refine VSt.run za false [] 200 rfl trivial ?_
   exact ⟨rfl,_,[(0,0)],_,_,rfl,⟨rfl,rfl,z0X rfl rfl (AImp.refl _) zu,_,rfl,LImp.refl _⟩,rfl,rfl⟩
  | cons x m =>
   subst hl
   refine VSt.run za false [] 200 rfl (⟨Nat.succ_pos _,(by simp only [List.length_cons] at hn ⊢;omega),(fun q hq=>rfl),rfl,rfl,(by simp only [List.length_cons];omega),Nat.le_refl _⟩) ?_
   exact ⟨rfl,_,[(0,1)],_,[(0,.acc (m.length+1) 6 (fS (x::m)) 74)],rfl,⟨rfl,rfl,z0X rfl rfl (z6G (Nat.succ_pos _) (Nat.zero_add _) (Nat.zero_add _)) zu,_,rfl,⟨rfl,z5f (Nat.zero_add _) fun q hq=>rfl,trivial⟩⟩,rfl,rfl⟩
theorem zoV (g:Nat→Sht) (i j q:Nat):(bif Nat.beq q i then z9o (y5 (g i)) 0 (y5 (g j)) else y5 (g q))=y5 (if q=i then g j else g q):=by
 by_cases h:q=i
 ·subst h;rw [if_pos rfl,Nat.beq_refl];rfl
 ·rw [if_neg h,z0x h];rfl
theorem zmE {nb:Bool} {l:List Sht} {f:Nat} {id:Int} {p:Sht→Bool} (hf:∀ x,VP (sE r) f [.agg ((y5 x).map .p),.p (.fp [.int .i64 id] 0)] (bv (p x))) (hn:l.length≤1000) :
  VC (sE r) [0] 126 [.acc nb 0 6 l.length,.fn f [] [.p (.fp [.int .i64 id] 0)]] [(0,.acc l.length 6 (fS l) 74)]
   (fun a L=>(z7z l p = -1∧a = .acc nb 0 6 l.length∧L=[(0,.acc l.length 6 (fS l) 74)]) ∨
    (¬ z7z l p = -1∧∃ G:Nat→List PV,(l.filter (fun x=>!p x)).length<l.length∧(∀ q,q<(l.filter (fun x=>!p x)).length→G q=y5 ((l.filter (fun x=>!p x)).getD q default))∧a = .sl 0 6 0 (l.filter (fun x=>!p x)).length l.length 0∧L=[(0,.arr l.length 6 G 74)])):=by
 refine VC.of (fn:=Tryz.f126) za (zH rfl) (by kernel_rfl) rfl rfl ?_
 refine VSt.run za false [] 200 rfl trivial ?_
 refine zct (Vw.trans (Vw.sub' (F0:=[(8,.acc nb 0 6 l.length),(9,.fn f [] [.p (.fp [.int .i64 id] 0)])]) (z7d (by repeat (first | exact z0u | refine z0m rfl ?_)))) (z0G 0 rfl rfl ⟨Nat.le_refl _,rfl⟩)) rfl rfl rfl rfl rfl rfl rfl (zmo (first:=[]) (cap:=[.p (.fp [.int .i64 id] 0)]) (p:=p) (by omega) rfl (fun _=>rfl) (fun x=>hf x)) rfl ?_
 refine VSt.run za false [] 200 rfl trivial ?_
 refine VSt.cond rfl (fun h=>?_) (fun h=>?_)
 ·have h:z7z l p = -1:=eq_of_beq h
  refine VSt.run za false [] 200 rfl trivial ?_
  exact ⟨rfl,_,[(0,0)],_,_,rfl,⟨rfl,rfl,z0X rfl rfl (AImp.refl _) zu,_,rfl,LImp.refl _⟩,.inl ⟨h,rfl,rfl⟩⟩
 have h:¬ z7z l p = -1:=ne_of_beq_false h
 refine Exists.elim ((zfF l p).resolve_left h) fun k0 hk0=>?_
 have hfst:=zfE hk0
 have i0:inR (Int.ofNat k0+1):=by unfold inR;simp only [Int.ofNat_eq_natCast];omega
 refine VSt.putC 5 (nv k0) rfl (z0K hk0) ?_
 refine VSt.run za false [] 200 rfl (i0) ?_
 refine VSt.loop (α :=Nat×Nat×(Nat→Sht)) (fun x F L=>DelInv l p x.1 x.2.1 x.2.2 ∧
   F=[(0,.acc nb 0 6 l.length),(1,.fn f [] [.p (.fp [.int .i64 id] 0)]),(5,nv x.2.1),(6,nv x.1)]∧L=[(0,.acc l.length 6 (fun q=>y5 (x.2.2 q)) 74)]) (fun x=>l.length - x.1) (k0+1,k0,fun q=>l.getD q default) ?_ ⟨DelInv.start hfst,rfl,rfl⟩ ?_
 ·(refine Vw.sub' (z7d (by repeat (first | exact z0u | refine z0m rfl ?_))))
 rintro ⟨j,i,g⟩ F L ⟨hI,rfl,rfl⟩
 have hI:DelInv l p j i g:=hI
 have h1:=hI.le
 have h2:=hI.lt
 refine VSt.run za false [] 200 rfl trivial ?_
 refine VSt.cond rfl (fun hc=>?_) (fun hc=>?_)
 ·have hj:j<l.length:=by have:=of_decide_eq_true hc;simp only [Int.ofNat_eq_natCast] at this;omega
  have ij:inR (Int.ofNat j+1):=by unfold inR;simp only [Int.ofNat_eq_natCast];omega
  have ii:inR (Int.ofNat i+1):=by unfold inR;simp only [Int.ofNat_eq_natCast];omega
  have eg:g j=l.getD j default:=hI.rest j (Nat.le_refl _)
  refine VSt.run za false [] 200 rfl (⟨hj,rfl,hj,rfl⟩) ?_
  refine VSt.pc rfl rfl rfl rfl rfl rfl rfl rfl ((hf (g j))) ?_
  refine VSt.run za false [] 200 rfl trivial ?_
  refine VSt.cond rfl (fun hd=>?_) (fun hd=>?_)
  ·have hd:p (l.getD j default)=false:=by rw [←eg];exact (Bool.not_eq_true' _).mp hd
   refine VSt.run za false [] 200 rfl (⟨(show i<l.length by omega),rfl,(show i<l.length by omega),rfl,Nat.le_refl _,ii,ij⟩) ?_
   exact ⟨(j+1,i+1,fun q=>if q=i then g j else g q),_,_,Vw.trans (Vw.sub' (F0:=[(0,.acc nb 0 6 l.length),(1,.fn f [] [.p (.fp [.int .i64 id] 0)]),(5,nv (i+1)),(6,nv (j+1))]) (z7d (by repeat (first | exact z0u | refine z0m rfl ?_)))) (z1a (ps:=[(0,0)]) (F0:=[(0,.acc nb 0 6 l.length),(1,.fn f [] [.p (.fp [.int .i64 id] 0)]),(5,nv (i+1)),(6,nv (j+1))]) (L0:=[(0,.acc l.length 6 (fun q=>y5 (if q=i then g j else g q)) 74)]) ⟨rfl,rfl,(by repeat (first | exact zu | refine zk rfl rfl rfl ?_)),_,rfl,⟨rfl,BImp.acc rfl (fun q hq=>zoV g i j q),trivial⟩⟩),⟨hI.keep hj hd,rfl,rfl⟩,by show l.length - (j+1)<l.length - j;omega⟩
  ·have hd:p (l.getD j default)=true:=by rw [←eg];exact (Bool.not_eq_false' _).mp hd
   refine VSt.run za false [] 200 rfl (ij) ?_
   exact ⟨(j+1,i,g),_,_,z1a (ps:=[(0,0)]) (F0:=[(0,.acc nb 0 6 l.length),(1,.fn f [] [.p (.fp [.int .i64 id] 0)]),(5,nv i),(6,nv (j+1))]) (L0:=[(0,.acc l.length 6 (fun q=>y5 (g q)) 74)]) ⟨rfl,rfl,(by repeat (first | exact zu | refine zk rfl rfl rfl ?_)),_,rfl,LImp.refl _⟩,⟨hI.skip hj hd,rfl,rfl⟩,by show l.length - (j+1)<l.length - j;omega⟩
 ·have hj:j=l.length:=by have:=of_decide_eq_false hc;simp only [Int.ofNat_eq_natCast] at this;omega
  subst hj
  have ha:=hI.all
  have hpos:0<l.length:=by omega
  have h1':i≤l.length:=Nat.le_of_lt h2
  refine z05 (z1a (ps:=[(0,0)]) (F0:=[(0,.sl 0 6 0 l.length l.length 0),(5,nv i)]) (L0:=[(0,.arr l.length 6 (fun q=>y5 (g q)) 74)]) ⟨rfl,rfl,z0X rfl rfl (zg0 hpos rfl rfl) (zk rfl rfl rfl zu),_,rfl,⟨rfl,zdM hpos rfl (fun q hq=>rfl),trivial⟩⟩) ?_
  refine VSt.run za false [] 200 rfl (⟨h1',Nat.le_refl _,.inl h2,rfl,(by show 0+i+(l.length - i)≤l.length;omega),rfl,rfl,Nat.zero_le _,h1',.inr rfl,rfl⟩) ?_
  refine ⟨rfl,_,[(0,0)],_,_,rfl,⟨rfl,rfl,z0X rfl rfl (zkA (by omega) (by omega)) zu,_,rfl,LImp.refl _⟩,.inr ⟨h,_,by rw [←ha.1];exact h2,fun q hq=>?_,rfl,rfl⟩⟩
  rw [←ha.1] at hq
  show (bif Nat.ble (0+i) q&&Nat.blt q (0+i+(l.length - i)) then _ else y5 (g q))=_
  rw [show Nat.ble (0+i) q=false from by rw [←Bool.not_eq_true];intro hb;have:=Nat.le_of_ble_eq_true hb;omega]
  rw [←ha.2 q hq];rfl
end Go.Proofs.YtdpipdniklognaaGreat
/- Walks: the sheets of a paper, the program's and the reference's. -/
set_option maxRecDepth 100000
namespace Go.Proofs.YtdpipdniklognaaGreat
variable {r:Rm}
theorem AImp.agg {cs ds:List AV} (h:AImps cs ds):AImp (.agg cs) (.agg ds):=fun E S Z j v hv=>by
 cases hv with
 | agg hs hv=>exact .agg hs (h.vrs hv)
theorem AImp.tup {cs ds:List AV} (h:AImps cs ds):AImp (.tup cs) (.tup ds):=fun E S Z j v hv=>by
 cases hv with
 | tup hv=>exact .tup (h.vrs hv)
theorem zfO (s:Sht) (p:Int):VP (sE r) 146 [.agg ((y5 s).map .p),.p (.fp [.int .i64 p] 0)] (bv (!(s.paper==p))):=by
 refine VP.of (fn:=Tryz.f146) za (zH rfl) (by kernel_rfl) rfl rfl rfl ?_
 refine VSt.go za false [] 200 rfl AllP.n ?_
 exact EndsP.mk rfl rfl rfl rfl
theorem nnot {α : Type} (l:List α) (q : α → Bool):l.filter (fun x=>!!q x)=l.filter q:=by
 congr 1;funext x;cases q x <;> rfl
def zW (l:List Sht) (p:Int):List Sht:=l.filter fun s=>s.paper==p
theorem zjh {b:Bool} {l m:List Sht} (hb:b=true→l=[]) (e:m=l):AImp (.p (.lst 74 (b&&Nat.beq l.length 0) l.length (fS l))) (.p (z1t b m)):=by
 subst e
 cases b with
 | true=>rw [hb rfl];exact AImp.refl _
 | false=>exact AImp.refl _
theorem zjg {b:Bool} {l m m':List Sht} {G:Nat→List PV} (hb:b=true→l=[]) (e:m'=m) (hm:m'.length<l.length) (hG:∀ q,q<m'.length→G q=y5 (m'.getD q default)):AImp (.p (.lst 74 false m'.length fun k=>G (0+k))) (.p (z1t b m)):=by
 subst e
 cases b with
 | true=>rw [hb rfl] at hm;exact absurd hm (Nat.not_lt_zero _)
 | false=>exact AImp.lst fun k hk=>by rw [Nat.zero_add];exact hG k hk
theorem ziA {h:Hp} {p:Int} (hz:SzH h) (hn:h.st.length≤1000):VP (sE r) 107 [.agg ((eHp h).map .p),iv p] (.p (z1t h.stB (zW h.st p))):=by
 refine VP.of (fn:=Tryz.f107) za (zH rfl) (by kernel_rfl) rfl rfl rfl ?_
 refine VSt.go za false [] 200 rfl AllP.n ?_
 refine zb (z00 0 (eHp h) rfl rfl) ?_
 refine zb (z00 1 [.int .i64 p] rfl rfl) ?_
 refine VSt.cc [] rfl rfl rfl rfl rfl rfl rfl rfl rfl rfl rfl (zil hz.stN (by omega)) ?_
 rintro a L' ⟨rfl,rfl⟩
 refine VSt.go za false [] 200 rfl AllP.n ?_
 refine VSt.cc [(0,0)] rfl rfl rfl rfl rfl rfl rfl rfl rfl rfl rfl (zmE (f:=146) (id:=p) (p:=fun s=>!(s.paper==p)) (fun x=>zfO x p) hn) ?_
 rintro a L' (⟨g,rfl,rfl⟩ | ⟨g,G,hm,hG,rfl,rfl⟩)
 ·refine zb (Vw.kp [9] [(0,0)] rfl) ?_
  refine zb (z0G 0 rfl rfl ⟨Nat.le_refl _,rfl⟩) ?_
  refine zw 9 (.p (z1t h.stB (zW h.st p))) rfl (zjh hz.stN (by have:=zk2 g;rw [nnot] at this;exact this)) ?_
  refine VSt.go za false [] 200 rfl AllP.n ?_
  exact EndsP.mk rfl rfl rfl rfl
 ·have hm':=Nat.le_of_lt hm
  refine zb (Vw.kp [9] [(0,0)] rfl) ?_
  refine zb (Vw.freeze 0 rfl rfl ⟨by rw [Nat.zero_add];exact hm',hm',rfl⟩) ?_
  refine zw 9 (.p (z1t h.stB (zW h.st p))) rfl (zjg hz.stN (nnot _ _) hm hG) ?_
  refine VSt.go za false [] 200 rfl AllP.n ?_
  exact EndsP.mk rfl rfl rfl rfl
noncomputable def ppE (h:Hp) (p:Int):Int:=if ckH h=0 then (bif wth p 1 999 then 0 else 1) else 51
theorem zit (h:Hp):(OkH h∧ckH h=0)∨(¬ OkH h∧ckH h=51):=by
 unfold ckH
 by_cases c:OkH h
 ·exact .inl ⟨c,if_pos c⟩
 ·exact .inr ⟨c,if_neg c⟩
theorem zh2 {h:Hp} {p:Int} (e:ckH h=51):ppE h p=51:=if_neg (by rw [e];decide)
theorem zh3 {h:Hp} {p:Int} (e:ckH h=0) (g:wth p 1 999=false):ppE h p=1:=by unfold ppE;rw [if_pos e,g];rfl
theorem zcX {h:Hp} {p:Int} (e:ckH h=0) (g:wth p 1 999=true):ppE h p=0:=by unfold ppE;rw [if_pos e,g];rfl
theorem z9p {h:Hp} {p:Int} (hz:SzH h):VP (sE r) 72 [.agg ((eHp h).map .p),iv p] (iv (ppE h p)):=by
 have hc:=zkk (r:=r) hz
 refine VP.of (fn:=Tryz.f72) za (zH rfl) (by kernel_rfl) rfl rfl rfl ?_
 refine VSt.go za false [] 200 rfl AllP.n ?_
 rcases zit h with ⟨_,e⟩ | ⟨_,e⟩ <;> rw [e] at hc
 ·refine VSt.pc rfl rfl rfl rfl rfl rfl rfl rfl (hc) ?_
  refine VSt.go za false [] 200 rfl AllP.n ?_
  refine VSt.cond rfl (fun q=>absurd q (by decide)) (fun _=>?_)
  refine VSt.go za false [] 200 rfl AllP.n ?_
  refine VSt.pc rfl rfl rfl rfl rfl rfl rfl rfl ((z9A p)) ?_
  refine VSt.go za false [] 200 rfl AllP.n ?_
  refine VSt.cond rfl (fun q=>?_) (fun q=>?_)
  ·refine VSt.go za false [] 200 rfl AllP.n ?_
   refine EndsP.mk rfl rfl rfl ?_
   rw [zh3 e (nt q)];rfl
  ·refine VSt.go za false [] 200 rfl AllP.n ?_
   refine EndsP.mk rfl rfl rfl ?_
   rw [zcX e (nf q)];rfl
 ·refine VSt.pc rfl rfl rfl rfl rfl rfl rfl rfl (hc) ?_
  refine VSt.go za false [] 200 rfl AllP.n ?_
  refine VSt.cond rfl (fun _=>?_) (fun q=>absurd q (by decide))
  refine VSt.go za false [] 200 rfl AllP.n ?_
  refine EndsP.mk rfl rfl rfl ?_
  rw [zh2 e];rfl
theorem z8d {h:Hp} {p:Int} (hz:SzH h):VP (sE r) 88 [.agg ((eHp h).map .p),iv p] (iv (ppE h p)):=by
 have hc:=zh0 (r:=r) hz
 refine VP.of (fn:=Tryz.f88) za (zH rfl) (by kernel_rfl) rfl rfl rfl ?_
 refine VSt.go za false [] 200 rfl AllP.n ?_
 rcases zit h with ⟨_,e⟩ | ⟨_,e⟩ <;> rw [e] at hc
 ·refine VSt.pc rfl rfl rfl rfl rfl rfl rfl rfl (hc) ?_
  refine VSt.go za false [] 200 rfl AllP.n ?_
  refine VSt.cond rfl (fun q=>absurd q (by decide)) (fun _=>?_)
  refine VSt.go za false [] 200 rfl AllP.n ?_
  refine VSt.pc rfl rfl rfl rfl rfl rfl rfl rfl ((z6L p 1 999)) ?_
  refine VSt.go za false [] 200 rfl AllP.n ?_
  refine VSt.cond rfl (fun q=>?_) (fun q=>?_)
  ·refine VSt.go za false [] 200 rfl AllP.n ?_
   refine EndsP.mk rfl rfl rfl ?_
   rw [zh3 e (nt q)];rfl
  ·refine VSt.go za false [] 200 rfl AllP.n ?_
   refine EndsP.mk rfl rfl rfl ?_
   rw [zcX e (nf q)];rfl
 ·refine VSt.pc rfl rfl rfl rfl rfl rfl rfl rfl (hc) ?_
  refine VSt.go za false [] 200 rfl AllP.n ?_
  refine VSt.cond rfl (fun _=>?_) (fun q=>absurd q (by decide))
  refine VSt.go za false [] 200 rfl AllP.n ?_
  refine EndsP.mk rfl rfl rfl ?_
  rw [zh2 e];rfl
theorem z7o (h:Hp) (p:Int):(OkH h∧ppE h p=0)∨((!(ppE h p==0))=true):=by
 rcases zit h with ⟨c,e⟩ | ⟨_,e⟩
 ·by_cases g:wth p 1 999=true
  ·exact .inl ⟨c,zcX e g⟩
  ·rw [zh3 e (by simpa using g)];exact .inr rfl
 ·rw [zh2 e];exact .inr rfl
theorem zfq {h:Hp} {p:Int} (e:(!(ppE h p==0))=true):¬ ppE h p=0:=fun g=>by rw [g] at e;cases e
end Go.Proofs.YtdpipdniklognaaGreat
/- Walks: the sheets that are asked for; which one is sewn to which; which may follow. -/
set_option maxRecDepth 100000
namespace Go.Proofs.YtdpipdniklognaaGreat
variable {r:Rm}
end Go.Proofs.YtdpipdniklognaaGreat
/- Walks: a heap without a sheet, the program's. -/
set_option maxRecDepth 100000
namespace Go.Proofs.YtdpipdniklognaaGreat
variable {r:Rm}
end Go.Proofs.YtdpipdniklognaaGreat
/- Walks: Without, the program's and the reference's. -/
set_option maxRecDepth 100000
namespace Go.Proofs.YtdpipdniklognaaGreat
variable {r:Rm}
end Go.Proofs.YtdpipdniklognaaGreat
/- Walks: Follows of the program. -/
set_option maxRecDepth 100000
namespace Go.Proofs.YtdpipdniklognaaGreat
variable {r:Rm}
def toK (w:List Sew) (id:Int):Nat→Int
 | 0=>0
 | k+1=>bif (zF w k).fro==id then (zF w k).too else toK w id k
def frK (w:List Sew) (id:Int):Nat→Int
 | 0=>0
 | k+1=>bif (zF w k).too==id then (zF w k).fro else frK w id k
def toS (h:Hp) (id:Int):Int:=toK h.sw id h.sw.length
def frS (h:Hp) (id:Int):Int:=frK h.sw id h.sw.length
theorem za7 {h:Hp} {id:Int} (hn:h.sw.length<9223372036854775808):VP (sE r) 112 [.agg ((eHp h).map .p),iv id] (.tup [iv (toS h id),iv (frS h id)]):=by
 refine VP.of (fn:=Tryz.f112) za (zH rfl) (by kernel_rfl) rfl rfl rfl ?_
 refine VSt.go za false [] 200 rfl AllP.n ?_
 refine z05 (z00 0 (eHp h) rfl rfl) ?_
 refine z0W za h.sw.length hn [1,9] (fun k=>[(4,iv (toK h.sw id k)),(5,iv (frK h.sw id k))]) (fun _=>[]) (fun _=>True) rfl rfl rfl (fun _=>rfl) rfl rfl (z0L rfl (AImp.refl _) (z0L rfl (AImp.refl _) z0l)) trivial trivial (fun k hk _=>?_) (fun _=>?_)
 ·refine VSt.go za false [] 200 rfl (AllP.c ‹_› (AllP.c rfl AllP.n)) ?_
  refine VSt.cond rfl (fun h1=>?x1) (fun h1=>?x2)
  case' x1 =>
   have e1:toK h.sw id (k+1)=(zF h.sw k).too:=by
    show (bif (zF h.sw k).fro==id then _ else _)=_
    rw [show ((zF h.sw k).fro==id)=true from h1];rfl
  case' x2 =>
   have e1:toK h.sw id (k+1)=toK h.sw id k:=by
    show (bif (zF h.sw k).fro==id then _ else _)=_
    rw [show ((zF h.sw k).fro==id)=false from h1];rfl
  all_goals
   refine VSt.go za false [] 200 rfl AllP.n ?_
   refine VSt.cond rfl (fun h2=>?_) (fun h2=>?_)
   ·have e2:frK h.sw id (k+1)=(zF h.sw k).fro:=by
     show (bif (zF h.sw k).too==id then _ else _)=_
     rw [show ((zF h.sw k).too==id)=true from h2];rfl
    refine VSt.go za false [] 200 rfl AllP.n ?_
    refine ⟨?_,trivial⟩
    dsimp only
    rw [e1,e2]
    (refine Vw.drop (by repeat (first | exact zu | refine zk rfl rfl rfl ?_ | refine zA rfl ‹_› (zt _ ‹_›) ?_)))
   ·have e2:frK h.sw id (k+1)=frK h.sw id k:=by
     show (bif (zF h.sw k).too==id then _ else _)=_
     rw [show ((zF h.sw k).too==id)=false from h2];rfl
    refine VSt.go za false [] 200 rfl AllP.n ?_
    refine ⟨?_,trivial⟩
    dsimp only
    rw [e1,e2]
    (refine Vw.drop (by repeat (first | exact zu | refine zk rfl rfl rfl ?_ | refine zA rfl ‹_› (zt _ ‹_›) ?_)))
 ·refine VSt.go za false [] 200 rfl AllP.n ?_
  exact EndsP.mk rfl rfl rfl rfl
def zde (h:Hp) (a b:Sht):Bool:=(a.catch_==b.first||(a.catch_==0||b.first==0))&&((toS h a.id==0||toS h a.id==b.id)&&(frS h b.id==0||frS h b.id==a.id))
theorem z3L {h:Hp} {a b:Sht} (h1:(a.catch_==b.first||(a.catch_==0||b.first==0))=true) (h2:(toS h a.id==0||toS h a.id==b.id)=true):zde h a b=(frS h b.id==0||frS h b.id==a.id):=by
 unfold zde;rw [h1,h2];rfl
theorem zme {h:Hp} {a b:Sht} (h1:(a.catch_==b.first||(a.catch_==0||b.first==0))=false):zde h a b=false:=by
 unfold zde;rw [h1];rfl
theorem zdd {h:Hp} {a b:Sht} (h1:(toS h a.id==0||toS h a.id==b.id)=false):zde h a b=false:=by
 unfold zde;rw [h1];cases (a.catch_==b.first||(a.catch_==0||b.first==0)) <;> rfl
set_option maxHeartbeats 4000000 in
theorem znO {h:Hp} {a b:Sht} (hn:h.sw.length<9223372036854775808):VP (sE r) 113 [.agg ((eHp h).map .p),.agg ((y5 a).map .p),.agg ((y5 b).map .p)] (bv (zde h a b)):=by
 have s1:=za7 (r:=r) (h:=h) (id:=a.id) hn
 have s2:=za7 (r:=r) (h:=h) (id:=b.id) hn
 refine VP.of (fn:=Tryz.f113) za (zH rfl) (by kernel_rfl) rfl rfl rfl ?_
 refine VSt.go za false [] 200 rfl AllP.n ?_
 refine zb (z00 0 (eHp h) rfl rfl) ?_
 refine zb (z00 1 (y5 a) rfl rfl) ?_
 refine zb (z00 2 (y5 b) rfl rfl) ?_
 refine VSt.pc rfl rfl rfl rfl rfl rfl rfl rfl (s1) ?_
 refine VSt.go za false [] 200 rfl AllP.n ?_
 refine VSt.pc rfl rfl rfl rfl rfl rfl rfl rfl (s2) ?_
 refine VSt.go za false [] 200 rfl AllP.n ?_
 refine zi 30 rfl (fun hA=>?_) (fun hA=>?_)
 ·have h40:(a.catch_==b.first||(a.catch_==0||b.first==0))=true:=by rw [show (a.catch_==b.first)=true from hA];rfl
  refine VSt.go za false [] 200 rfl AllP.n ?_
  refine zi 43 rfl (fun d1=>?_) (fun d1=>?_)
  ·have d2:(toS h a.id==0||toS h a.id==b.id)=true:=by rw [show (toS h a.id==0)=true from d1];rfl
   refine VSt.go za false [] 200 rfl AllP.n ?_
   refine zi 53 rfl (fun f1=>?_) (fun f1=>?_)
   ·refine VSt.go za false [] 200 rfl AllP.n ?_
    refine EndsP.mk rfl rfl rfl ?_
    show bv _=bv _
    rw [z3L h40 d2,show (frS h b.id==0)=true from f1];rfl
   ·refine VSt.go za false [] 200 rfl AllP.n ?_
    refine EndsP.mk rfl rfl rfl ?_
    show bv _=bv _
    rw [z3L h40 d2,show (frS h b.id==0)=false from f1];rfl
  ·refine VSt.go za false [] 200 rfl AllP.n ?_
   refine zi 50 rfl (fun e1=>?_) (fun e1=>?_)
   ·have d2:(toS h a.id==0||toS h a.id==b.id)=true:=by rw [show (toS h a.id==0)=false from d1,show (toS h a.id==b.id)=true from e1];rfl
    refine VSt.go za false [] 200 rfl AllP.n ?_
    refine zi 53 rfl (fun f1=>?_) (fun f1=>?_)
    ·refine VSt.go za false [] 200 rfl AllP.n ?_
     refine EndsP.mk rfl rfl rfl ?_
     show bv _=bv _
     rw [z3L h40 d2,show (frS h b.id==0)=true from f1];rfl
    ·refine VSt.go za false [] 200 rfl AllP.n ?_
     refine EndsP.mk rfl rfl rfl ?_
     show bv _=bv _
     rw [z3L h40 d2,show (frS h b.id==0)=false from f1];rfl
   ·refine VSt.go za false [] 200 rfl AllP.n ?_
    refine EndsP.mk rfl rfl rfl ?_
    show bv _=bv _
    rw [zdd (by rw [show (toS h a.id==0)=false from d1,show (toS h a.id==b.id)=false from e1];rfl)]
 refine VSt.go za false [] 200 rfl AllP.n ?_
 refine zi 35 rfl (fun hB=>?_) (fun hB=>?_)
 ·have h40:(a.catch_==b.first||(a.catch_==0||b.first==0))=true:=by rw [show (a.catch_==b.first)=false from hA,show (a.catch_==0)=true from hB];rfl
  refine VSt.go za false [] 200 rfl AllP.n ?_
  refine zi 43 rfl (fun d1=>?_) (fun d1=>?_)
  ·have d2:(toS h a.id==0||toS h a.id==b.id)=true:=by rw [show (toS h a.id==0)=true from d1];rfl
   refine VSt.go za false [] 200 rfl AllP.n ?_
   refine zi 53 rfl (fun f1=>?_) (fun f1=>?_)
   ·refine VSt.go za false [] 200 rfl AllP.n ?_
    refine EndsP.mk rfl rfl rfl ?_
    show bv _=bv _
    rw [z3L h40 d2,show (frS h b.id==0)=true from f1];rfl
   ·refine VSt.go za false [] 200 rfl AllP.n ?_
    refine EndsP.mk rfl rfl rfl ?_
    show bv _=bv _
    rw [z3L h40 d2,show (frS h b.id==0)=false from f1];rfl
  ·refine VSt.go za false [] 200 rfl AllP.n ?_
   refine zi 50 rfl (fun e1=>?_) (fun e1=>?_)
   ·have d2:(toS h a.id==0||toS h a.id==b.id)=true:=by rw [show (toS h a.id==0)=false from d1,show (toS h a.id==b.id)=true from e1];rfl
    refine VSt.go za false [] 200 rfl AllP.n ?_
    refine zi 53 rfl (fun f1=>?_) (fun f1=>?_)
    ·refine VSt.go za false [] 200 rfl AllP.n ?_
     refine EndsP.mk rfl rfl rfl ?_
     show bv _=bv _
     rw [z3L h40 d2,show (frS h b.id==0)=true from f1];rfl
    ·refine VSt.go za false [] 200 rfl AllP.n ?_
     refine EndsP.mk rfl rfl rfl ?_
     show bv _=bv _
     rw [z3L h40 d2,show (frS h b.id==0)=false from f1];rfl
   ·refine VSt.go za false [] 200 rfl AllP.n ?_
    refine EndsP.mk rfl rfl rfl ?_
    show bv _=bv _
    rw [zdd (by rw [show (toS h a.id==0)=false from d1,show (toS h a.id==b.id)=false from e1];rfl)]
 refine VSt.go za false [] 200 rfl AllP.n ?_
 refine zi 40 rfl (fun hC=>?_) (fun hC=>?_)
 ·have h40:(a.catch_==b.first||(a.catch_==0||b.first==0))=true:=by rw [show (a.catch_==b.first)=false from hA,show (a.catch_==0)=false from hB,show (b.first==0)=true from hC];rfl
  refine VSt.go za false [] 200 rfl AllP.n ?_
  refine zi 43 rfl (fun d1=>?_) (fun d1=>?_)
  ·have d2:(toS h a.id==0||toS h a.id==b.id)=true:=by rw [show (toS h a.id==0)=true from d1];rfl
   refine VSt.go za false [] 200 rfl AllP.n ?_
   refine zi 53 rfl (fun f1=>?_) (fun f1=>?_)
   ·refine VSt.go za false [] 200 rfl AllP.n ?_
    refine EndsP.mk rfl rfl rfl ?_
    show bv _=bv _
    rw [z3L h40 d2,show (frS h b.id==0)=true from f1];rfl
   ·refine VSt.go za false [] 200 rfl AllP.n ?_
    refine EndsP.mk rfl rfl rfl ?_
    show bv _=bv _
    rw [z3L h40 d2,show (frS h b.id==0)=false from f1];rfl
  ·refine VSt.go za false [] 200 rfl AllP.n ?_
   refine zi 50 rfl (fun e1=>?_) (fun e1=>?_)
   ·have d2:(toS h a.id==0||toS h a.id==b.id)=true:=by rw [show (toS h a.id==0)=false from d1,show (toS h a.id==b.id)=true from e1];rfl
    refine VSt.go za false [] 200 rfl AllP.n ?_
    refine zi 53 rfl (fun f1=>?_) (fun f1=>?_)
    ·refine VSt.go za false [] 200 rfl AllP.n ?_
     refine EndsP.mk rfl rfl rfl ?_
     show bv _=bv _
     rw [z3L h40 d2,show (frS h b.id==0)=true from f1];rfl
    ·refine VSt.go za false [] 200 rfl AllP.n ?_
     refine EndsP.mk rfl rfl rfl ?_
     show bv _=bv _
     rw [z3L h40 d2,show (frS h b.id==0)=false from f1];rfl
   ·refine VSt.go za false [] 200 rfl AllP.n ?_
    refine EndsP.mk rfl rfl rfl ?_
    show bv _=bv _
    rw [zdd (by rw [show (toS h a.id==0)=false from d1,show (toS h a.id==b.id)=false from e1];rfl)]
 refine VSt.go za false [] 200 rfl AllP.n ?_
 refine EndsP.mk rfl rfl rfl ?_
 show bv _=bv _
 rw [zme (by rw [show (a.catch_==b.first)=false from hA,show (a.catch_==0)=false from hB,show (b.first==0)=false from hC];rfl)]
end Go.Proofs.YtdpipdniklognaaGreat
/- Walks: Follows of both sides. -/
set_option maxRecDepth 100000
namespace Go.Proofs.YtdpipdniklognaaGreat
variable {r:Rm}
def zbh (h:Hp) (x y:Sht):Bool:=h.sw.all fun t=>(t.fro==x.id)==(t.too==y.id)
def z7e (h:Hp) (i k:Nat) (x y:Sht):Bool:=!(i==k||(!(x.paper==y.paper)||(!(x.catch_==y.first)&&(!(x.catch_==0) && !(y.first==0)))))&&zbh h x y
theorem zcU {h:Hp} {i k:Nat} {x y:Sht} (g:(i==k||(!(x.paper==y.paper)||(!(x.catch_==y.first)&&(!(x.catch_==0) && !(y.first==0)))))=true):z7e h i k x y=false:=by unfold z7e;rw [g];rfl
theorem zlL {h:Hp} {i k:Nat} {x y:Sht} (g:(i==k||(!(x.paper==y.paper)||(!(x.catch_==y.first)&&(!(x.catch_==0) && !(y.first==0)))))=false):z7e h i k x y=zbh h x y:=by unfold z7e;rw [g];rfl
theorem zhq (i k:Nat):(Int.ofNat i==Int.ofNat k)=(i==k):=by
 rw [Bool.eq_iff_iff,beq_iff_eq,beq_iff_eq];exact Int.ofNat_inj
set_option maxHeartbeats 8000000 in
theorem zlM {h:Hp} {i k:Nat} (hz:SzH h) (hi:i<h.st.length) (hk:k<h.st.length):VP (sE r) 114 [.agg ((eHp h).map .p),nv i,nv k] (bv (z7e h i k (zg h.st i) (zg h.st k))):=by
 have hn:=hz.st
 have hm:=hz.sw
 refine VP.of (fn:=Tryz.f114) za (zH rfl) (by kernel_rfl) rfl rfl rfl ?_
 refine VSt.go za false [] 200 rfl (AllP.c ‹_› (AllP.c rfl (AllP.c ‹_› (AllP.c rfl AllP.n)))) ?_
 refine zb (z00 0 (eHp h) rfl rfl) ?_
 refine zb (z00 1 (y5 (zg h.st i)) rfl rfl) ?_
 refine zb (z00 2 (y5 (zg h.st k)) rfl rfl) ?_
 refine zi 23 rfl (fun hA=>?_) (fun hA=>?_)
 ·refine VSt.go za false [] 200 rfl AllP.n ?_
  refine EndsP.mk rfl rfl rfl ?_
  show bv _=bv _
  rw [zcU (by rw [←zhq,show (Int.ofNat i==Int.ofNat k)=true from hA];rfl)]
 have a1:(i==k)=false:=by rw [←zhq];exact hA
 refine VSt.go za false [] 200 rfl AllP.n ?_
 refine zi 30 rfl (fun hB=>?_) (fun hB=>?_)
 ·refine VSt.go za false [] 200 rfl AllP.n ?_
  refine EndsP.mk rfl rfl rfl ?_
  show bv _=bv _
  rw [zcU (by rw [a1,show (!((zg h.st i).paper==(zg h.st k).paper))=true from hB];rfl)]
 have a2:(!((zg h.st i).paper==(zg h.st k).paper))=false:=hB
 refine VSt.go za false [] 200 rfl AllP.n ?_
 refine zi 36 rfl (fun hC=>?x1) (fun hC=>?x2)
 case' x2 =>
  have a3:(i==k||(!((zg h.st i).paper==(zg h.st k).paper)||(!((zg h.st i).catch_==(zg h.st k).first)&&(!((zg h.st i).catch_==0) && !((zg h.st k).first==0)))))=false:=by rw [a1,a2,show (!((zg h.st i).catch_==(zg h.st k).first))=false from hC];rfl
 case' x1 =>
  refine VSt.go za false [] 200 rfl AllP.n ?_
  refine zi 41 rfl (fun hD=>?y1) (fun hD=>?y2)
  case' y2 =>
   have a3:(i==k||(!((zg h.st i).paper==(zg h.st k).paper)||(!((zg h.st i).catch_==(zg h.st k).first)&&(!((zg h.st i).catch_==0) && !((zg h.st k).first==0)))))=false:=by rw [a1,a2,show (!((zg h.st i).catch_==(zg h.st k).first))=true from hC,show (!((zg h.st i).catch_==0))=false from hD];rfl
  case' y1 =>
   refine VSt.go za false [] 200 rfl AllP.n ?_
   refine VSt.cond rfl (fun hE=>?_) (fun hE=>?z2)
   ·refine VSt.go za false [] 200 rfl AllP.n ?_
    refine EndsP.mk rfl rfl rfl ?_
    show bv _=bv _
    rw [zcU (by rw [a1,a2,show (!((zg h.st i).catch_==(zg h.st k).first))=true from hC,show (!((zg h.st i).catch_==0))=true from hD,show (!((zg h.st k).first==0))=true from hE];rfl)]
   have a3:(i==k||(!((zg h.st i).paper==(zg h.st k).paper)||(!((zg h.st i).catch_==(zg h.st k).first)&&(!((zg h.st i).catch_==0) && !((zg h.st k).first==0)))))=false:=by rw [a1,a2,show (!((zg h.st i).catch_==(zg h.st k).first))=true from hC,show (!((zg h.st i).catch_==0))=true from hD,show (!((zg h.st k).first==0))=false from hE];rfl
 all_goals
  rw [zlL a3]
  refine VSt.go za false [] 200 rfl AllP.n ?_
  refine z09 (ti:=9) h.sw.length [3,7,8] (fun _=>[]) (fun _=>[]) (fun j=>∀ q,q<j→(((zF h.sw q).fro==(zg h.st i).id)==((zF h.sw q).too==(zg h.st k).id))=true) rfl rfl z0l trivial none0 (fun j hj hp=>?_)
  refine VSt.go za false [] 200 rfl AllP.n ?_
  refine VSt.cond rfl (fun g=>?_) (fun g=>?_)
  ·have g:=nlt g
   refine VSt.go za false [] 200 rfl (AllP.c ‹_› (AllP.c rfl (AllP.c ‹_› (AllP.c rfl AllP.n)))) ?_
   refine VSt.cond rfl (fun hF=>?_) (fun hF=>?_)
   ·have hF:(!(((zF h.sw j).fro==(zg h.st i).id)==((zF h.sw j).too==(zg h.st k).id)))=true:=hF
    refine VSt.go za false [] 200 rfl AllP.n ?_
    refine EndsP.mk rfl rfl rfl ?_
    show bv false=bv _
    rw [show zbh h (zg h.st i) (zg h.st k)=false by
     unfold zbh
     rw [←Bool.not_eq_true,List.all_eq_true]
     intro ha
     have:=ha (zF h.sw j) (z0J g)
     rw [nt hF] at this;cases this]
   ·have hF:(!(((zF h.sw j).fro==(zg h.st i).id)==((zF h.sw j).too==(zg h.st k).id)))=false:=hF
    refine VSt.go za false [] 200 rfl (AllP.c (by unfold inR;(try simp only [Int.ofNat_eq_natCast]);omega) AllP.n) ?_
    exact ⟨g,by (refine Vw.drop (by repeat (first | exact zu | refine zk rfl rfl rfl ?_ | refine zA rfl ‹_› (zt _ ‹_›) ?_))),z0e hp (nf hF)⟩
  ·have g:j=h.sw.length:=by have:=nge g;omega
   subst g
   refine VSt.go za false [] 200 rfl AllP.n ?_
   refine EndsP.mk rfl rfl rfl ?_
   show bv true=bv _
   rw [show zbh h (zg h.st i) (zg h.st k)=true from List.all_eq_true.2 fun t ht=>by
    obtain ⟨q,hq,rfl⟩:=z0I (d:=default) ht
    exact hp q hq]
end Go.Proofs.YtdpipdniklognaaGreat
/- Walks: the reference's Follows; both answer the same. -/
set_option maxRecDepth 100000
namespace Go.Proofs.YtdpipdniklognaaGreat
variable {r:Rm}
theorem z3q {b:Bool}:AImp (.lit b) (bv b):=fun _ _ _ _ _ h=>by
 cases h;exact .p (.bool _)
theorem zgz {w:List Sew} {id:Int} {j:Nat} (h1:(zF w j).fro=id) (hu:∀ i,i<w.length→(zF w i).fro=id→i=j):∀ k,j<k→k≤w.length→toK w id k=(zF w j).too
 | 0,h,_=>absurd h (Nat.not_lt_zero j)
 | k+1,h,hl=>by
  show (bif (zF w k).fro==id then (zF w k).too else toK w id k)=_
  by_cases e:(zF w k).fro=id
  ·rw [hu k hl e,h1,beq_self_eq_true];rfl
  ·rw [beq_false_of_ne e]
   have:j≠k:=fun g=>e (by rw [←g];exact h1)
   exact zgz h1 hu k (by omega) (by omega)
theorem zdX {w:List Sew} {id:Int}:∀ k,k≤w.length→(∀ i,i<k→(zF w i).fro≠id)→toK w id k=0
 | 0,_,_=>rfl
 | k+1,hl,h=>by
  show (bif (zF w k).fro==id then (zF w k).too else toK w id k)=_
  rw [beq_false_of_ne (h k (Nat.lt_succ_self k))]
  exact zdX k (by omega) fun i hi=>h i (by omega)
theorem zi5 {w:List Sew} {id:Int} {j:Nat} (h1:(zF w j).too=id) (hu:∀ i,i<w.length→(zF w i).too=id→i=j):∀ k,j<k→k≤w.length→frK w id k=(zF w j).fro
 | 0,h,_=>absurd h (Nat.not_lt_zero j)
 | k+1,h,hl=>by
  show (bif (zF w k).too==id then (zF w k).fro else frK w id k)=_
  by_cases e:(zF w k).too=id
  ·rw [hu k hl e,h1,beq_self_eq_true];rfl
  ·rw [beq_false_of_ne e]
   have:j≠k:=fun g=>e (by rw [←g];exact h1)
   exact zi5 h1 hu k (by omega) (by omega)
theorem zeD {w:List Sew} {id:Int}:∀ k,k≤w.length→(∀ i,i<k→(zF w i).too≠id)→frK w id k=0
 | 0,_,_=>rfl
 | k+1,hl,h=>by
  show (bif (zF w k).too==id then (zF w k).fro else frK w id k)=_
  rw [beq_false_of_ne (h k (Nat.lt_succ_self k))]
  exact zeD k (by omega) fun i hi=>h i (by omega)
theorem OkH.fro_lt {h:Hp} (n:OkH h):∀ {p q:Nat},p<q→q<h.sw.length→(zF h.sw p).fro<(zF h.sw q).fro:=by
 intro p q hpq hq
 obtain ⟨d,rfl⟩:∃ d,q=p+1+d:=⟨q - (p+1),by omega⟩
 clear hpq
 induction d with
 | zero=>exact n.froms (p+1) (by omega) hq
 | succ d ih =>
  have h1:=ih (by omega)
  have h2:=n.froms (p+1+d+1) (by omega) hq
  rw [show p+1+d+1 - 1=p+1+d by omega] at h2
  exact Int.lt_trans h1 h2
theorem OkH.fro_inj {h:Hp} (n:OkH h) {p q:Nat} (hp:p<h.sw.length) (hq:q<h.sw.length) (e:(zF h.sw p).fro=(zF h.sw q).fro):p=q:=by
 rcases Nat.lt_trichotomy p q with g | g | g
 ·have:=n.fro_lt g hq;omega
 ·exact g
 ·have:=n.fro_lt g hp;omega
theorem OkH.too_inj {h:Hp} (n:OkH h) {p q:Nat} (hp:p<h.sw.length) (hq:q<h.sw.length) (e:(zF h.sw p).too=(zF h.sw q).too):p=q:=by
 rcases Nat.lt_trichotomy p q with g | g | g
 ·exact absurd e (n.toos q hq p g)
 ·exact g
 ·exact absurd e.symm (n.toos p hp q g)
theorem OkH.pos {h:Hp} (n:OkH h) {j:Nat} (hj:j<h.sw.length):1≤(zF h.sw j).fro∧1≤(zF h.sw j).too:=by
 obtain ⟨a,b,ha,hb,e1,e2,_⟩:=n.sewn j hj
 have h1:=(wth_iff.1 (n.ok a ha).id).1
 have h2:=(wth_iff.1 (n.ok b hb).id).1
 exact ⟨by rw [←e1];exact h1,by rw [←e2];exact h2⟩
theorem zb7 {h:Hp} (n:OkH h) (id:Int):(∃ j,j<h.sw.length∧(zF h.sw j).fro=id∧toS h id=(zF h.sw j).too)∨((∀ j,j<h.sw.length→(zF h.sw j).fro≠id)∧toS h id=0):=by
 by_cases c:∃ j,j<h.sw.length∧(zF h.sw j).fro=id
 ·obtain ⟨j,hj,e⟩:=c
  exact .inl ⟨j,hj,e,zgz e (fun i hi g=>n.fro_inj hi hj (g.trans e.symm)) _ hj (Nat.le_refl _)⟩
 ·have:∀ j,j<h.sw.length→(zF h.sw j).fro≠id:=fun j hj e=>c ⟨j,hj,e⟩
  exact .inr ⟨this,zdX _ (Nat.le_refl _) this⟩
theorem zc1 {h:Hp} (n:OkH h) (id:Int):(∃ j,j<h.sw.length∧(zF h.sw j).too=id∧frS h id=(zF h.sw j).fro)∨((∀ j,j<h.sw.length→(zF h.sw j).too≠id)∧frS h id=0):=by
 by_cases c:∃ j,j<h.sw.length∧(zF h.sw j).too=id
 ·obtain ⟨j,hj,e⟩:=c
  exact .inl ⟨j,hj,e,zi5 e (fun i hi g=>n.too_inj hi hj (g.trans e.symm)) _ hj (Nat.le_refl _)⟩
 ·have:∀ j,j<h.sw.length→(zF h.sw j).too≠id:=fun j hj e=>c ⟨j,hj,e⟩
  exact .inr ⟨this,zeD _ (Nat.le_refl _) this⟩
theorem znk {h:Hp} (n:OkH h) {a b:Int}:(toS h a==0||toS h a==b)=true ↔ ∀ j,j<h.sw.length→(zF h.sw j).fro=a→(zF h.sw j).too=b:=by
 rw [Bool.or_eq_true,beq_iff_eq,beq_iff_eq]
 rcases zb7 n a with ⟨j,hj,e,e2⟩ | ⟨g,e2⟩
 ·rw [e2]
  have:=(n.pos hj).2
  refine ⟨fun c i hi ei=>?_,fun c=>.inr (c j hj e)⟩
  rw [n.fro_inj hi hj (ei.trans e.symm)]
  rcases c with c | c
  ·omega
  ·exact c
 ·exact ⟨fun _ j hj e=>absurd e (g j hj),fun _=>.inl e2⟩
theorem zo2 {h:Hp} (n:OkH h) {a b:Int}:(frS h b==0||frS h b==a)=true ↔ ∀ j,j<h.sw.length→(zF h.sw j).too=b→(zF h.sw j).fro=a:=by
 rw [Bool.or_eq_true,beq_iff_eq,beq_iff_eq]
 rcases zc1 n b with ⟨j,hj,e,e2⟩ | ⟨g,e2⟩
 ·rw [e2]
  have:=(n.pos hj).1
  refine ⟨fun c i hi ei=>?_,fun c=>.inr (c j hj e)⟩
  rw [n.too_inj hi hj (ei.trans e.symm)]
  rcases c with c | c
  ·omega
  ·exact c
 ·exact ⟨fun _ j hj e=>absurd e (g j hj),fun _=>.inl e2⟩
theorem same_iff {h:Hp} {x y:Sht}:zbh h x y=true ↔ ∀ j,j<h.sw.length→((zF h.sw j).fro=x.id ↔ (zF h.sw j).too=y.id):=by
 unfold zbh
 rw [List.all_eq_true]
 have key:∀ t:Sew,((t.fro==x.id)==(t.too==y.id))=true ↔ (t.fro=x.id ↔ t.too=y.id):=fun t=>by
  rw [beq_iff_eq,Bool.eq_iff_iff,beq_iff_eq,beq_iff_eq]
 refine ⟨fun g j hj=>(key _).1 (g _ (z0J hj)),fun g t ht=>?_⟩
 obtain ⟨j,hj,rfl⟩:=z0I (d:=default) ht
 exact (key _).2 (g j hj)
theorem znm {h:Hp} (n:OkH h) (x y:Sht):((toS h x.id==0||toS h x.id==y.id)&&(frS h y.id==0||frS h y.id==x.id))=zbh h x y:=by
 rw [Bool.eq_iff_iff,Bool.and_eq_true,znk n,zo2 n,same_iff]
 exact ⟨fun g j hj=>⟨g.1 j hj,g.2 j hj⟩,fun g=>⟨fun j hj=>(g j hj).1,fun j hj=>(g j hj).2⟩⟩
end Go.Proofs.YtdpipdniklognaaGreat
/- Walks: Found of the program. -/
set_option maxRecDepth 100000
namespace Go.Proofs.YtdpipdniklognaaGreat
variable {r:Rm}
theorem zoC (l:List Sht) (p:Int):(zW l p).length=cnt l p:=rfl
end Go.Proofs.YtdpipdniklognaaGreat
/- Walks: Found of the reference. -/
set_option maxRecDepth 100000
namespace Go.Proofs.YtdpipdniklognaaGreat
variable {r:Rm}
theorem zbK {ty n:Nat} {f g:Nat→List PV} (h:∀ k,g k=f k):AImp (.p (.lst ty false (0+n) fun k=>g (0+k))) (.p (.lst ty false n f)):=by
 rw [Nat.zero_add];exact AImp.lst fun k _=>by rw [Nat.zero_add,h]
end Go.Proofs.YtdpipdniklognaaGreat
/- Plain: what the reference's Found puts in is what the program's does; walks: Same, SamePairs, SameHeap of equal ones. -/
set_option maxRecDepth 100000
namespace Go.Proofs.YtdpipdniklognaaGreat
variable {r:Rm}
theorem zhp {a:Int}:(!(a==a))=true→False:=fun h=>by rw [beq_self_eq_true] at h;exact absurd h (by decide)
theorem zlz {b1 b2:Bool} {l:List Int} (hn:l.length<9223372036854775808):VP (sE r) 25 [.p (z7h b1 l),.p (z7h b2 l)] (bv true):=by
 refine VP.of (fn:=Tryz.f25) za (zH rfl) (by kernel_rfl) rfl rfl rfl ?_
 refine VSt.go za false [] 200 rfl AllP.n ?_
 refine VSt.cond rfl (fun h=>(zhp (show (!(Int.ofNat l.length==Int.ofNat l.length))=true from h)).elim) (fun _=>?_)
 refine VSt.go za false [] 200 rfl AllP.n ?_
 refine z09 (ti:=5) l.length [0,1] (fun _=>[]) (fun _=>[]) (fun _=>True) rfl rfl z0l trivial trivial (fun k hk hp=>?_)
 refine VSt.go za false [] 200 rfl AllP.n ?_
 refine VSt.cond rfl (fun g=>?_) (fun g=>?_)
 ·have g:=nlt g
  refine VSt.go za false [] 200 rfl (AllP.c ‹_› (AllP.c rfl (AllP.c ‹_› (AllP.c rfl AllP.n)))) ?_
  refine VSt.cond rfl (fun h1=>?_) (fun _=>?_)
  ·exact (zhp (show (!(l.getD k 0==l.getD k 0))=true from h1)).elim
  ·refine VSt.go za false [] 200 rfl (AllP.c (by unfold inR;(try simp only [Int.ofNat_eq_natCast]);omega) AllP.n) ?_
   exact ⟨g,by (refine Vw.drop (by repeat (first | exact zu | refine zk rfl rfl rfl ?_ | refine zA rfl ‹_› (zt _ ‹_›) ?_))),trivial⟩
 ·have g:k=l.length:=by have:=nge g;omega
  subst g
  refine VSt.go za false [] 200 rfl AllP.n ?_
  exact EndsP.mk rfl rfl rfl rfl
end Go.Proofs.YtdpipdniklognaaGreat
/- Sets of holes by bits; the orders of sheets by words and threads. -/
set_option maxRecDepth 100000
namespace Go.Proofs.YtdpipdniklognaaGreat
variable {r:Rm}
theorem zhU {m k:Nat} (hk:k<64) (hm:m<9223372036854775808):VP (sE r) 142 [iv (Int.ofNat m),nv k] (bv (m.testBit k)):=by
 refine VP.of (fn:=Tryz.f142) za (zH rfl) (by kernel_rfl) rfl rfl rfl ?_
 have h1:m >>> k<9223372036854775808:=by
  rw [Nat.shiftRight_eq_div_pow];exact Nat.lt_of_le_of_lt (Nat.div_le_self _ _) hm
 refine VSt.go za false [] 200 rfl ((AllP.c hk (AllP.c h1 (AllP.c (by decide) AllP.n)))) ?_
 refine EndsP.mk rfl rfl rfl ?_
 show bv _=bv _
 congr 1
 rw [Nat.testBit_eq_decide_div_mod_eq,Nat.shiftRight_eq_div_pow,Nat.and_one_is_mod,Bool.eq_iff_iff,beq_iff_eq,decide_eq_true_iff]
 simp only [Int.ofNat_eq_natCast]
 omega
theorem zcz {m k:Nat} (hk:k<62) (hm:m<9223372036854775808):VP (sE r) 136 [iv (Int.ofNat m),nv k] (iv (Int.ofNat (m ||| 1 <<< k))):=by
 refine VP.of (fn:=Tryz.f136) za (zH rfl) (by kernel_rfl) rfl rfl rfl ?_
 have h1:1 <<< k<9223372036854775808:=by
  rw [Nat.one_shiftLeft];exact Nat.lt_of_lt_of_le (Nat.pow_lt_pow_right (by decide) hk) (by decide)
 refine VSt.go za false [] 200 rfl ((AllP.c (show k<64 by omega) (AllP.c h1 (AllP.c hm (AllP.c h1 AllP.n))))) ?_
 exact EndsP.mk rfl rfl rfl rfl
def z8Y:List Nat→Nat
 | []=>0
 | i::l=>z8Y l ||| 1 <<< i
theorem zcJ:∀ (l:List Nat) (k:Nat),(z8Y l).testBit k=l.contains k
 | [],k=>by show (0:Nat).testBit k=_;rw [Nat.zero_testBit];rfl
 | i::l,k=>by
  show (z8Y l ||| 1 <<< i).testBit k=_
  rw [Nat.testBit_or,zcJ l k,Nat.one_shiftLeft,Nat.testBit_two_pow,List.contains_cons,Bool.or_comm]
  congr 1
  rw [Bool.eq_iff_iff,decide_eq_true_iff,beq_iff_eq];exact eq_comm
theorem zgx:∀ {l:List Nat},(∀ i∈l,i<60)→z8Y l<1152921504606846976
 | [],_=>by decide
 | i::l,h=>by
  show z8Y l ||| 1 <<< i<2 ^ 60
  refine Nat.or_lt_two_pow (zgx fun k hk=>h k (List.mem_cons_of_mem _ hk)) ?_
  rw [Nat.one_shiftLeft]
  exact Nat.pow_lt_pow_right (by decide) (h i (List.mem_cons_self ..))
theorem zgw {l:List Nat} {k:Nat} (h:l.contains k=false):(z8Y l ||| 1 <<< k) ^^^ ((z8Y l ||| 1 <<< k) &&& 1 <<< k)=z8Y l:=by
 refine Nat.eq_of_testBit_eq fun i=>?_
 rw [Nat.testBit_xor,Nat.testBit_and,Nat.testBit_or,Nat.one_shiftLeft,Nat.testBit_two_pow]
 by_cases e:k=i
 ·subst e
  rw [zcJ,h,decide_eq_true rfl];rfl
 ·rw [decide_eq_false e];cases (z8Y l).testBit i <;> rfl
def okR (h:Hp) (l:List Sht) (row:List Nat) (i:Nat):Bool:=!row.contains i&&match row with
 | []=>frS h (zg l i).id==0
 | j::_=>zde h (zg l j) (zg l i)
def z7B (h:Hp) (l:List Sht):Nat→List Nat→List (List Nat)
 | 0,row=>[row]
 | f+1,row=>(List.range l.length).flatMap fun i=>bif okR h l row i then z7B h l f (i::row) else []
def zaz (h:Hp) (l:List Sht) (f:Nat) (row:List Nat):Nat→List (List Nat)
 | 0=>[]
 | k+1=>zaz h l f row k++bif okR h l row k then z7B h l f (k::row) else []
theorem z9K {α : Type} (g:Nat→List α):∀ n,(List.range (n+1)).flatMap g=(List.range n).flatMap g++g n:=fun n=>by
 rw [List.range_succ,List.flatMap_append];simp
theorem zeC {h:Hp} {l:List Sht} {f:Nat} {row:List Nat}:zaz h l f row l.length=z7B h l (f+1) row:=by
 have:∀ k,zaz h l f row k=(List.range k).flatMap fun i=>bif okR h l row i then z7B h l f (i::row) else []:=fun k=>by
  induction k with
  | zero=>rfl
  | succ k ih=>rw [z9K,←ih];rfl
 exact this _
def zcS (h:Hp) (l:List Sht):List (List Nat):=z7B h l l.length []
def zX (l:List Sht) (row:List Nat):List Sht:=row.reverse.map fun i=>zg l i
theorem z5q {l:List Sht} {row:List Nat}:(zX l row).length=row.length:=by unfold zX;rw [List.length_map,List.length_reverse]
theorem zbl {l:List Sht} {row:List Nat} {i:Nat}:zX l (i::row)=zX l row++[zg l i]:=by
 unfold zX;rw [List.reverse_cons,List.map_append];rfl
theorem z88 {l:List Sht} {row:List Nat} {i:Nat}:zg (zX l (i::row)) row.length=zg l i:=by
 rw [zbl];unfold zg
 rw [List.getD_eq_getElem?_getD,List.getElem?_append_right (by rw [z5q];exact Nat.le_refl _),z5q,Nat.sub_self];rfl
theorem z5p {l:List Sht} {row:List Nat} {i k:Nat} (hk:k<row.length):zg (zX l (i::row)) k=zg (zX l row) k:=by
 rw [zbl];unfold zg
 simp only [List.getD_eq_getElem?_getD]
 rw [List.getElem?_append_left (by rw [z5q];exact hk)]
end Go.Proofs.YtdpipdniklognaaGreat
/- Walks: the step of the iterator of rows. -/
set_option maxRecDepth 100000
namespace Go.Proofs.YtdpipdniklognaaGreat
variable {r:Rm}
theorem zdJ (s:List Nat):(s.all (inB s))=true:=by
 rw [List.all_eq_true]
 intro x hx
 unfold inB
 rw [List.any_eq_true]
 exact ⟨x,hx,Nat.beq_refl x⟩
theorem zcY {n:Nat}:decide (0<Int.ofNat (n+1))=true:=decide_eq_true (by simp only [Int.ofNat_eq_natCast];omega)
theorem z1y {n:Nat}:Int.ofNat (n+1) - 1=Int.ofNat n:=by simp only [Int.ofNat_eq_natCast];omega
def zoM (h:Hp) (b:Bool) (l:List Sht):AV:=.fn 151 [] [.ref 2 0,.p (.fp [z1t b l] 0),.ref 1 0,.p (.fp (eHp h) 0),.ref 3 0,.ref 4 0]
def z8Z (h:Hp) (b:Bool) (l:List Sht) (lp:VB) (k u:Nat) (g:Nat→Sht) (X:VS):VS :=
 (0,lp)::(1,.cells [.yld 0] 141)::(2,.cells [.sl 5 6 0 k l.length 1] 22)::(3,.cells [iv (Int.ofNat u)] 113)::(4,.cells [zoM h b l] 42)::(5,.arr l.length 6 (fun q=>y5 (g q)) 74)::X
abbrev s5 (s:List Nat):List Nat:=0::1::2::3::4::5::s
theorem zd8 {h:Hp} {l:List Sht} {row:List Nat} {k:Nat} (e:row.contains k=true):okR h l row k=false:=by unfold okR;rw [e];rfl
theorem zhj {h:Hp} {l:List Sht} {k:Nat}:okR h l [] k=(frS h (zg l k).id==0):=rfl
theorem z7q {h:Hp} {l:List Sht} {j:Nat} {row:List Nat} {k:Nat} (e:(j::row).contains k=false):okR h l (j::row) k=zde h (zg l j) (zg l k):=by unfold okR;rw [e];rfl
def zqk (r:Rm) (h:Hp) (b:Bool) (l:List Sht) (N:Nat) (s:List Nat) (G:VK) (ps:List Tmp) (asg body:Code) (row:List Nat) (I:VS→Prop) (J:LExit→VS→Prop):zN:=fun e F2 L2 =>
 (e = .normal∧∃ F0 g X,Vw (sE r) (s5 s) F2 L2 F0 (z8Z h b l (.loop .busy none G N ps asg body) row.length (z8Y row) g X)∧(∀ k,k<row.length→g k=zg (zX l row) k)∧I X) ∨
 (zm e=false∧∃ F0 g X G3,Vw (sE r) (s5 s) F2 L2 F0 (z8Z h b l (.loop .busy none G3 N ps asg body) row.length (z8Y row) g X)∧J e X)
def zq0 (r:Rm) (h:Hp) (b:Bool) (l:List Sht) (N:Nat) (s:List Nat) (G:VK) (ps:List Tmp) (asg body:Code) (row:List Nat) (I:VS→Prop) (J:LExit→VS→Prop):zN:=fun e F1 L1 =>
 e = .normal∧∃ G2,bk L1 0=some (.loop .ready none G2 N ps asg body)∧VSt.H (sE r) N (s5 s) none (zqk r h b l N s G ps asg body row I J) (.code body [] F1 (up L1 0 (.loop .busy none G2 N ps asg body)))
def zpF (h:Hp) (b:Bool) (l:List Sht) (N:Nat) (G:VK) (ps:List Tmp) (asg body:Code) (row:List Nat) (I:VS→Prop) (J:LExit→VS→Prop) (a:AV) (L':VS):Prop :=
 (a=bv true∧∃ g X,L'=z8Z h b l (.loop .ready none G N ps asg body) row.length (z8Y row) g X∧(∀ k,k<row.length→g k=zg (zX l row) k)∧I X) ∨
 (a=bv false∧∃ g X e G3,zm e=false∧L'=z8Z h b l (.loop .done (codeOf e) G3 N ps asg body) row.length (z8Y row) g X∧J e X)
theorem zmW {s:Sht} {g:Nat→Sht} {m i:Nat}:(bif (0+m).ble i&&i.blt (0+m+1) then (fun k=>List.take 6 (List.drop (k*6) (y5 s))) (i - (0+m)) else (fun q=>y5 (g q)) i)=y5 (if i=m then s else g i):=by
 rw [Nat.zero_add]
 by_cases e:i=m
 ·subst e
  rw [if_pos rfl,show Nat.ble i i=true from z2l (Nat.le_refl _),ziC (Nat.lt_succ_self i)]
  show List.take 6 (List.drop ((i - i)*6) (y5 s))=_
  rw [Nat.sub_self];rfl
 ·rw [if_neg e]
  by_cases c:m≤i
  ·rw [zkm (show ¬ i<m+1 by omega),Bool.and_false];rfl
  ·rw [show Nat.ble m i=false by rw [←Bool.not_eq_true];exact fun h=>c (zG h)];rfl
theorem zeB {h:Hp} {l:List Sht} {f:Nat} {row:List Nat} {k:Nat}:∀ d,∃ t,zaz h l f row (k+d)=zaz h l f row k++t
 | 0=>⟨[],(List.append_nil _).symm⟩
 | d+1=>by
  obtain ⟨t,e⟩:=zeB (h:=h) (l:=l) (f:=f) (row:=row) (k:=k) d
  exact ⟨t++bif okR h l row (k+d) then z7B h l f ((k+d)::row) else [],by rw [←List.append_assoc,←e];rfl⟩
theorem zmt {h:Hp} {l:List Sht} {f:Nat} {row:List Nat} {k q:Nat} (hk:k<l.length) (hok:okR h l row k=true) (hq:q<(z7B h l f (k::row)).length):(z7B h l (f+1) row)[(zaz h l f row k).length+q]? = (z7B h l f (k::row))[q]? ∧ (zaz h l f row k).length+q<(z7B h l (f+1) row).length:=by
 obtain ⟨t,e⟩:=zeB (h:=h) (l:=l) (f:=f) (row:=row) (k:=k+1) (l.length - (k+1))
 rw [show k+1+(l.length - (k+1))=l.length by omega,zeC] at e
 have e2:zaz h l f row (k+1)=zaz h l f row k++z7B h l f (k::row):=by
  show zaz h l f row k++(bif okR h l row k then z7B h l f (k::row) else [])=_
  rw [hok];rfl
 rw [e,e2,List.append_assoc]
 refine ⟨?_,?_⟩
 ·rw [List.getElem?_append_right (by omega),Nat.add_sub_cancel_left,List.getElem?_append_left hq]
 ·rw [List.length_append,List.length_append];omega
theorem ways {A B O T G:Prop} (hab:A∨B) (tail:O→T) (ha:A→(O→T)→G) (hb:B→(O→T)→G):G:=hab.elim (fun h=>ha h tail) fun h=>hb h tail
set_option maxHeartbeats 8000000 in
theorem step_ok {h:Hp} {b:Bool} {l:List Sht} (hl:l.length<60) (hw:h.sw.length<9223372036854775808) {N:Nat} {G G1:VK} {ps:List Tmp} {asg body:Code} (s:List Nat) (R:List (List Nat)) (I:Nat→VS→Prop) (J:LExit→VS→Prop)
  (hk:z6B N ps [.sl 5 6 0 l.length l.length 1] G=some G1)
  (hround:∀ q row g X,R[q]? = some row→row.length=l.length→(∀ k,k<row.length→g k=zg (zX l row) k)→I q X→VSt.H (sE r) N (s5 s) none (zq0 r h b l N s G ps asg body row (I (q+1)) J) (.code asg [] G1 (z8Z h b l (.loop .ready none G N ps asg body) row.length (z8Y row) g X))) :
  ∀ f row o g X,f+row.length=l.length→(∀ i∈row,i<l.length)→(∀ k,k<(z7B h l f row).length→R[o+k]? = (z7B h l f row)[k]?)→(∀ k,k<row.length→g k=zg (zX l row) k)→I o X →
   VC (sE r) (s5 s) 151 [.ref 2 0,.p (.fp [z1t b l] 0),.ref 1 0,.p (.fp (eHp h) 0),.ref 3 0,.ref 4 0] (z8Z h b l (.loop .ready none G N ps asg body) row.length (z8Y row) g X)
    (zpF h b l N G ps asg body row (I (o+(z7B h l f row).length)) J):=by
 intro f
 induction f with
 | zero =>
  intro row o g X hn _ hR hg hI
  have hn:row.length=l.length:=by omega
  have hR0:R[o]? = some row:=hR 0 (by show 0<1;decide)
  have hrd:=hround o row g X hR0 hn hg hI
  refine z7c (fn:=Tryz.f151) za (zH rfl) (by kernel_rfl) rfl rfl ?_
  unfold z8Z at hrd ⊢
  refine zf za false [] 200 rfl AllP.n ?_
  refine VSt.cond rfl (fun _=>?_) (fun q=>?_)
  ·refine zf za false [] 200 rfl AllP.n ?_
   refine VSt.yieldN (s5 s) rfl rfl rfl rfl rfl rfl rfl (by rw [hn];exact hk) rfl rfl (zdJ _) (VW.mono hrd ?_)
   refine fun e F1 L1' h=>⟨h.1,h.2.elim fun G2 h2=>⟨G2,h2.1,VW.mono h2.2 ?_⟩⟩
   refine fun e F2 L2 h=>?_
   rcases h with ⟨he,F0,g',X',hv,hg',hI'⟩ | ⟨he,F0,g',X',G3,hv,hJ⟩
   ·subst he
    refine ⟨F0,_,none,G,hv,rfl,?_⟩
    refine zf za false [] 200 rfl AllP.n ?_
    exact ⟨rfl,_,rfl,.inl ⟨rfl,g',X',rfl,hg',hI'⟩⟩
   ·refine ⟨F0,_,none,G3,hv,rfl,?_⟩
    rw [he]
    refine zf za false [] 200 rfl AllP.n ?_
    exact ⟨rfl,_,rfl,.inr ⟨rfl,g',X',e,G3,he,rfl,hJ⟩⟩
  ·have q:(Int.ofNat row.length==Int.ofNat l.length)=false:=q
   rw [hn,beq_self_eq_true] at q;cases q
 | succ f ih =>
  intro row o g X hn hlt hR hg hI
  have hu:=zgx (l:=row) (fun i hi=>Nat.lt_trans (hlt i hi) hl)
  refine z7c (fn:=Tryz.f151) za (zH rfl) (by kernel_rfl) rfl rfl ?_
  unfold z8Z
  refine zf za false [] 200 rfl AllP.n ?_
  refine VSt.cond rfl (fun q=>?_) (fun q=>?_)
  ·have q:(Int.ofNat row.length==Int.ofNat l.length)=true:=q
   have:=eq_of_beq q
   simp only [Int.ofNat_eq_natCast] at this
   omega
  refine zf za false [] 200 rfl AllP.n ?_
  refine VSt.range za l.length (by omega) (fun k F L=>F=[(20,.p (z1t b l)),(0,.ref 2 0),(2,.ref 1 0),(3,.p (.fp (eHp h) 0)),(4,.ref 3 0),(5,.ref 4 0)]∧∃ g X,L=z8Z h b l (.loop .ready none G N ps asg body) row.length (z8Y row) g X∧(∀ k,k<row.length→g k=zg (zX l row) k)∧I (o+(zaz h l f row k).length) X) rfl rfl
   ⟨[(20,.p (z1t b l)),(0,.ref 2 0),(2,.ref 1 0),(3,.p (.fp (eHp h) 0)),(4,.ref 3 0),(5,.ref 4 0)],_,(by (refine Vw.sub' (z7d (by repeat (first | exact z0u | refine z0m rfl ?_))))),rfl,g,X,rfl,hg,hI⟩ ?_ ?_
  ·rintro k F L hk1 ⟨rfl,g,X,rfl,hg,hI⟩
   unfold z8Z
   refine zf za false [24] 200 rfl AllP.n ?_
   refine VSt.fr 6 [(22,nv k),(20,.p (z1t b l))] [(22,nv k),(21,nv l.length),(20,.p (z1t b l)),(0,.ref 2 0),(2,.ref 1 0),(3,.p (.fp (eHp h) 0)),(4,.ref 3 0),(5,.ref 4 0)] 5 (by repeat (first | exact z0u | refine z0m rfl ?_)) (by repeat (first | exact z0u | refine z0m rfl ?_)) rfl rfl rfl ?_
   refine VSt.go za false [] 200 rfl (AllP.c ‹_› (AllP.c rfl AllP.n)) ?_
   refine ⟨rfl,[(7,nv k),(8,.p (.fp (y5 (zg l k)) 0))],(fun q=>y5 (g q)),Vw.trans (z00 6 (y5 (zg l k)) rfl rfl) (Vw.kp [7,8] [(5,5)] rfl),rfl,?_⟩
   refine zf za false [] 200 rfl AllP.n ?_
   refine VSt.pc rfl rfl rfl rfl rfl rfl rfl rfl ((za7 (h:=h) (id:=(zg l k).id) hw)) ?_
   refine zf za false [] 200 rfl AllP.n ?_
   refine z0E rfl rfl rfl rfl rfl rfl rfl rfl ((zhU (m:=z8Y row) (k:=k) (by omega) (by omega))) ?_
   refine zf za false [] 200 rfl AllP.n ?_
   refine z02 37 (bv (row.contains k)) rfl (z04 (by rw [zcJ])) ?_
   have hgk:zaz h l f row (k+1)=zaz h l f row k++bif okR h l row k then z7B h l f (k::row) else []:=rfl
   have hskip:okR h l row k=false→zaz h l f row (k+1)=zaz h l f row k:=fun e=>by rw [hgk,e];exact List.append_nil _
   refine zl 37 rfl (fun hc=>?_) (fun hc=>?_)
   ·have hc:row.contains k=true:=hc
    refine zf za false [] 200 rfl AllP.n ?_
    refine ⟨_,_,(by (refine Vw.sub' (z7d (by repeat (first | exact z0u | refine z0m rfl ?_))))),⟨rfl,g,X,rfl,hg,?_⟩,rfl⟩
    rw [hskip (zd8 hc)];exact hI
   have hc:row.contains k=false:=hc
   have hrc:row=[]∨∃ j row',row=j::row':=by cases row with
    | nil=>exact .inl rfl
    | cons j row'=>exact .inr ⟨j,row',rfl⟩
   refine ways (O:=okR h l row k=true) (T:=?T) hrc ?tail ?ha ?hb
   case ha =>
    intro hrow tail
    refine zf za false [] 200 rfl AllP.n ?_
    refine z02 41 (bv false) rfl (z04 (by rw [hrow];rfl)) ?_
    refine zl 41 rfl (fun q1=>?_) (fun q1=>?_)
    ·exact absurd q1 (by decide)
    refine zf za false [] 200 rfl AllP.n ?_
    refine z02 58 (bv true) rfl (z04 (by rw [hrow];rfl)) ?_
    refine zl 58 rfl (fun q2=>?_) (fun q2=>?_)
    rotate_left
    ·exact absurd q2 (by decide)
    refine zf za false [] 200 rfl AllP.n ?_
    refine VSt.cond rfl (fun q3=>?_) (fun q3=>?_)
    ·have q3:(!(frS h (zg l k).id==0))=true:=q3
     refine zf za false [] 200 rfl AllP.n ?_
     refine ⟨_,_,(by (refine Vw.sub' (z7d (by repeat (first | exact z0u | refine z0m rfl ?_))))),⟨rfl,g,X,rfl,hg,?_⟩,rfl⟩
     rw [hskip (by rw [hrow,zhj];simpa using q3)];exact hI
    have q3:(!(frS h (zg l k).id==0))=false:=q3
    refine zf za false [63] 200 rfl AllP.n ?_
    refine zb (F0:=[(7,nv k),(8,.p (.fp (y5 (zg l k)) 0)),(22,nv k),(21,nv l.length),(20,.p (z1t b l)),(0,.ref 2 0),(2,.ref 1 0),(3,.p (.fp (eHp h) 0)),(4,.ref 3 0),(5,.ref 4 0)]) (by (refine Vw.sub' (z7d (by repeat (first | exact z0u | refine z0m rfl ?_))))) ?_
    exact tail (by rw [hrow,zhj];simpa using q3)
   case hb =>
    intro hx tail
    refine hx.elim fun j hx=>hx.elim fun row' hrow=>?_
    have hlr:row.length=row'.length+1:=by rw [hrow];rfl
    have hlen:row'.length<60:=by omega
    have hk2:row'.length<l.length:=by omega
    have hk3:row'.length<row.length:=by omega
    have hk4:0+row'.length<l.length:=by omega
    have hgj:g row'.length=zg l j:=by rw [hg row'.length hk3,hrow,z88]
    have hc2:(j::row').contains k=false:=by rw [←hrow];exact hc
    refine zf za false [] 200 rfl AllP.n ?_
    refine z02 41 (bv true) rfl (z04 (by rw [hlr,zcY])) ?_
    refine zl 41 rfl (fun q1=>?_) (fun q1=>?_)
    rotate_left
    ·exact absurd q1 (by decide)
    refine zf za false [46] 200 rfl AllP.n ?_
    refine z02 45 (nv (row'.length+1)) rfl (z0K (by rw [hlr])) ?_
    refine zf za false [47] 200 rfl (AllP.c (by unfold inR;(try simp only [Int.ofNat_eq_natCast]);omega) AllP.n) ?_
    refine z02 46 (nv row'.length) rfl (z0K z1y) ?_
    refine zf za false [49] 200 rfl (AllP.c ‹_› (AllP.c rfl (AllP.c ‹_› (AllP.c rfl AllP.n)))) ?_
    refine z02 48 (.agg ((y5 (zg l j)).map .p)) rfl (z04 (by rw [Nat.zero_add,hgj];rfl)) ?_
    refine zf za false [] 200 rfl AllP.n ?_
    refine z0E rfl rfl rfl rfl rfl rfl rfl rfl ((znO (h:=h) (a:=zg l j) (b:=zg l k) hw)) ?_
    refine zf za false [] 200 rfl AllP.n ?_
    refine zl 54 rfl (fun q3=>?_) (fun q3=>?_)
    ·have q3:(!zde h (zg l j) (zg l k))=true:=q3
     refine zf za false [] 200 rfl AllP.n ?_
     refine ⟨_,_,(by (refine Vw.sub' (z7d (by repeat (first | exact z0u | refine z0m rfl ?_))))),⟨rfl,g,X,rfl,hg,?_⟩,rfl⟩
     rw [hskip (by rw [hrow,z7q hc2];simpa using q3)];exact hI
    have q3:(!zde h (zg l j) (zg l k))=false:=q3
    refine zf za false [] 200 rfl AllP.n ?_
    refine z02 58 (bv false) rfl (z04 (by rw [hlr];rfl)) ?_
    refine zl 58 rfl (fun q4=>?_) (fun q4=>?_)
    ·exact absurd q4 (by decide)
    refine zf za false [63] 200 rfl AllP.n ?_
    refine zb (F0:=[(7,nv k),(8,.p (.fp (y5 (zg l k)) 0)),(22,nv k),(21,nv l.length),(20,.p (z1t b l)),(0,.ref 2 0),(2,.ref 1 0),(3,.p (.fp (eHp h) 0)),(4,.ref 3 0),(5,.ref 4 0)]) (by (refine Vw.sub' (z7d (by repeat (first | exact z0u | refine z0m rfl ?_))))) ?_
    exact tail (by rw [hrow,z7q hc2];simpa using q3)
   intro hok
   refine zf za false [65] 200 rfl AllP.n ?_
   refine VSt.fr 2 [(63,.sl 5 6 0 row.length l.length 1),(64,.agg ((y5 (zg l k)).map .p))] [(7,nv k),(22,nv k),(21,nv l.length),(20,.p (z1t b l)),(0,.ref 2 0),(2,.ref 1 0),(3,.p (.fp (eHp h) 0)),(4,.ref 3 0),(5,.ref 4 0)] 5 (by repeat (first | exact z0u | refine z0m rfl ?_)) (by repeat (first | exact z0u | refine z0m rfl ?_)) rfl rfl rfl ?_
   have hroom:row.length+1≤l.length:=by omega
   refine VSt.go za false [] 200 rfl (AllP.c (by omega) (AllP.c (by omega) (AllP.c (fun q hq=>match q,hq with | 0,_=>rfl) (AllP.c rfl (AllP.c rfl (AllP.c ‹_› (AllP.c (by omega) AllP.n))))))) ?_
   refine ⟨rfl,[(66,.sl 5 6 0 (row.length+1) l.length 1)],(fun q=>y5 (if q=row.length then zg l k else g q)),z1a (ps:=[(5,5)]) ⟨rfl,rfl,(by repeat (first | exact zu | refine zk rfl rfl rfl ?_)),_,rfl,⟨rfl,BImp.arr (fun q _=>zmW),trivial⟩⟩,rfl,?_⟩
   refine zf za false [] 200 rfl AllP.n ?_
   refine VSt.pc rfl rfl rfl rfl rfl rfl rfl rfl ((zcz (m:=z8Y row) (k:=k) (by omega) (by omega))) ?_
   refine zf za false [71] 200 rfl AllP.n ?_
   have hlt':∀ i∈k::row,i<l.length:=fun i hi=>by
    rcases List.mem_cons.1 hi with rfl | hi
    ·exact hk1
    ·exact hlt i hi
   have hR':∀ q,q<(z7B h l f (k::row)).length→R[o+(zaz h l f row k).length+q]? = (z7B h l f (k::row))[q]? :=fun q hq=>by
    obtain ⟨e1,e2⟩:=zmt (h:=h) (f:=f) (row:=row) hk1 hok hq
    rw [Nat.add_assoc,hR _ e2,e1]
   have hg':∀ q,q<(k::row).length→(if q=row.length then zg l k else g q)=zg (zX l (k::row)) q:=fun q hq=>by
    have hq:q<row.length+1:=hq
    by_cases c:q=row.length
    ·rw [if_pos c,c,z88]
    ·rw [if_neg c,hg q (by omega),z5p (by omega)]
   have hb1:1 <<< k<9223372036854775808:=by rw [Nat.one_shiftLeft];exact Nat.lt_of_lt_of_le (Nat.pow_lt_pow_right (by decide) (show k<62 by omega)) (by decide)
   have hb2:z8Y (k::row)<9223372036854775808:=Nat.lt_trans (zgx (fun i hi=>Nat.lt_trans (hlt' i hi) hl)) (by decide)
   have hC:=ih (k::row) (o+(zaz h l f row k).length) (fun q=>if q=row.length then zg l k else g q) X (by show f+(row.length+1)=_;omega) hlt' hR' hg' hI
   have hgn:zaz h l f row (k+1)=zaz h l f row k++z7B h l f (k::row):=by rw [hgk,hok];rfl
   refine VSt.ci (s5 s) rfl rfl rfl rfl rfl rfl rfl (zdJ _) hC (fun a L' ha=>?_)
   rcases ha with ⟨rfl,g1,X1,rfl,hg1,hI1⟩ | ⟨rfl,g1,X1,e,G3,he,rfl,hJ1⟩
   ·unfold z8Z
    refine zf za false [75] 200 rfl AllP.n ?_
    refine zw 74 (nv (row.length+1)) rfl (AImp.refl _) ?_
    refine zf za false [76] 200 rfl (AllP.c (by unfold inR;(try simp only [Int.ofNat_eq_natCast]);omega) AllP.n) ?_
    refine zw 75 (nv row.length) rfl (z0K z1y) ?_
    refine zf za false [] 200 rfl (AllP.c (by omega) (AllP.c (by omega) (AllP.c (by omega) (AllP.c rfl (AllP.c (by omega) (AllP.c ‹_› (AllP.c ‹_› (AllP.c ‹_› AllP.n)))))))) ?_
    refine z05 (Vw.imp (L':=z8Z h b l (.loop .ready none G N ps asg body) row.length (z8Y row) g1 X1) ⟨rfl,BImp.refl _,rfl,BImp.refl _,rfl,BImp.refl _,rfl,BImp.cell1 (z0K (congrArg Int.ofNat (zgw hc))),rfl,BImp.refl _,rfl,BImp.refl _,LImp.refl _⟩) ?_
    unfold z8Z
    refine VSt.cond rfl (fun q=>absurd q (by decide)) (fun _=>?_)
    refine zf za false [] 200 rfl AllP.n ?_
    refine ⟨_,_,(by (refine Vw.sub' (z7d (by repeat (first | exact z0u | refine z0m rfl ?_))))),⟨rfl,g1,X1,rfl,fun q hq=>?_,?_⟩,rfl⟩
    ·rw [hg1 q (Nat.lt_succ_of_lt hq),z5p hq]
    ·rw [hgn,List.length_append,←Nat.add_assoc];exact hI1
   ·unfold z8Z
    refine zf za false [75] 200 rfl AllP.n ?_
    refine zw 74 (nv (row.length+1)) rfl (AImp.refl _) ?_
    refine zf za false [76] 200 rfl (AllP.c (by unfold inR;(try simp only [Int.ofNat_eq_natCast]);omega) AllP.n) ?_
    refine zw 75 (nv row.length) rfl (z0K z1y) ?_
    refine zf za false [] 200 rfl (AllP.c (by omega) (AllP.c (by omega) (AllP.c (by omega) (AllP.c rfl (AllP.c (by omega) (AllP.c ‹_› (AllP.c ‹_› (AllP.c ‹_› AllP.n)))))))) ?_
    refine z05 (Vw.imp (L':=z8Z h b l (.loop .done (codeOf e) G3 N ps asg body) row.length (z8Y row) g1 X1) ⟨rfl,BImp.refl _,rfl,BImp.refl _,rfl,BImp.refl _,rfl,BImp.cell1 (z0K (congrArg Int.ofNat (zgw hc))),rfl,BImp.refl _,rfl,BImp.refl _,LImp.refl _⟩) ?_
    unfold z8Z
    refine VSt.cond rfl (fun _=>?_) (fun q=>absurd q (by decide))
    refine zf za false [] 200 rfl AllP.n ?_
    exact ⟨rfl,_,rfl,.inr ⟨rfl,g1,X1,e,G3,he,rfl,hJ1⟩⟩
  ·rintro F L ⟨rfl,g,X,rfl,hg,hI⟩
   unfold z8Z
   refine zf za false [] 200 rfl AllP.n ?_
   refine ⟨rfl,_,rfl,.inl ⟨rfl,g,X,rfl,hg,?_⟩⟩
   rw [←zeC];exact hI
end Go.Proofs.YtdpipdniklognaaGreat
/- Walks: the iterator of rows. -/
set_option maxRecDepth 100000
namespace Go.Proofs.YtdpipdniklognaaGreat
variable {r:Rm}
theorem rows_ok {h:Hp} {b:Bool} {l:List Sht}:VP (sE r) 119 [.agg ((eHp h).map .p),.p (z1t b l)] (.fn 150 [] [.p (.fp [z1t b l] 0),.p (.fp (eHp h) 0)]):=by
 refine VP.of (fn:=Tryz.f119) za (zH rfl) (by kernel_rfl) rfl rfl rfl ?_
 refine VSt.go za false [4] 200 rfl AllP.n ?_
 refine zb (z00 0 (eHp h) rfl rfl) ?_
 refine zb (z00 1 [z1t b l] rfl rfl) ?_
 refine VSt.go za false [] 200 rfl AllP.n ?_
 exact EndsP.mk rfl rfl rfl rfl
def zpG (h:Hp) (b:Bool) (l:List Sht) (N:Nat) (G:VK) (ps:List Tmp) (asg body:Code) (I:VS→Prop) (J:LExit→VS→Prop) (L':VS):Prop :=
 (∃ g X,L'=z8Z h b l (.loop .ready none G N ps asg body) 0 0 g X∧I X)∨(∃ g X e G3,zm e=false∧L'=z8Z h b l (.loop .done (codeOf e) G3 N ps asg body) 0 0 g X∧J e X)
set_option maxHeartbeats 4000000 in
theorem zjo {h:Hp} {b:Bool} {l:List Sht} (hl:l.length<60) (hw:h.sw.length<9223372036854775808) {N:Nat} {G G1:VK} {ps:List Tmp} {asg body:Code} {X:VS} (s:List Nat) (I:Nat→VS→Prop) (J:LExit→VS→Prop) (hX:∀ i,i<10→bk X i=none) (hI:I 0 X)
  (hk:z6B N ps [.sl 5 6 0 l.length l.length 1] G=some G1)
  (hround:∀ q row g X,(zcS h l)[q]? = some row→row.length=l.length→(∀ k,k<row.length→g k=zg (zX l row) k)→I q X→VSt.H (sE r) N (s5 s) none (zq0 r h b l N s G ps asg body row (I (q+1)) J) (.code asg [] G1 (z8Z h b l (.loop .ready none G N ps asg body) row.length (z8Y row) g X))) :
  VC (sE r) (s5 s) 150 [.yld 0,.p (.fp [z1t b l] 0),.p (.fp (eHp h) 0)] ((0,.loop .ready none G N ps asg body)::X) (fun _ L'=>zpG h b l N G ps asg body (I (zcS h l).length) J L'):=by
 refine z7c (fn:=Tryz.f150) za (zH rfl) (by kernel_rfl) rfl rfl ?_
 refine zf za false [3] 200 rfl trivial ?_
 refine zf2 1 (hX 1 (by decide)) rfl rfl rfl rfl rfl ?_
 refine zf za false [9] 200 rfl AllP.n ?_
 refine ziU 5 za (hX 5 (by decide)) rfl rfl rfl rfl rfl rfl rfl (Nat.zero_le _) (by omega) ?_
 refine z3p 2 za (hX 2 (by decide)) rfl rfl rfl rfl ?_
 refine zf za false [5] 200 rfl AllP.n ?_
 refine z3p 3 za (hX 3 (by decide)) rfl rfl rfl rfl ?_
 refine zf za false [6] 200 rfl AllP.n ?_
 refine z3p 4 za (hX 4 (by decide)) rfl rfl rfl rfl ?_
 refine zf za false [12] 200 rfl AllP.n ?_
 refine zb (Vw.perm (L':=z8Z h b l (.loop .ready none G N ps asg body) 0 0 (fun _=>default) X) fun i=>?_) ?_
 ·match i with
  | 0=>rfl
  | 1=>rfl
  | 2=>rfl
  | 3=>rfl
  | 4=>rfl
  | 5=>rfl
  | n+6=>rfl
 refine VSt.ci (s5 s) rfl rfl rfl rfl rfl rfl rfl (zdJ _) (step_ok hl hw s (zcS h l) I J hk hround l.length [] 0 (fun _=>default) X rfl (fun i hi=>by cases hi) (fun k _=>by rw [Nat.zero_add];rfl) (fun k hk=>absurd hk (Nat.not_lt_zero k)) hI) (fun a L' ha=>?_)
 rcases ha with ⟨rfl,g1,X1,rfl,_,hI1⟩ | ⟨rfl,g1,X1,e,G3,he,rfl,hJ1⟩
 ·refine zf za false [] 200 rfl AllP.n ?_
  refine ⟨rfl,_,rfl,.inl ⟨g1,X1,rfl,?_⟩⟩
  rw [Nat.zero_add] at hI1;exact hI1
 ·refine zf za false [] 200 rfl AllP.n ?_
  exact ⟨rfl,_,rfl,.inr ⟨g1,X1,e,G3,he,rfl,hJ1⟩⟩
end Go.Proofs.YtdpipdniklognaaGreat
/- Walks: threads, span, broken. -/
set_option maxRecDepth 100000
namespace Go.Proofs.YtdpipdniklognaaGreat
variable {r:Rm}
def okT (h:Hp) (l:List Sht) (k:Nat):Bool:=toS h (zg l k).id==0||(decide (k+1<l.length)&&(zg l (k+1)).id==toS h (zg l k).id)
def zdZ (h:Hp) (l:List Sht):Bool:=zoE (okT h l) l.length
set_option maxHeartbeats 4000000 in
theorem zfb {h:Hp} {b:Bool} {l:List Sht} (hl:l.length≤1000) (hw:h.sw.length<9223372036854775808):VP (sE r) 120 [.agg ((eHp h).map .p),.p (z1t b l)] (bv (zdZ h l)):=by
 refine VP.of (fn:=Tryz.f120) za (zH rfl) (by kernel_rfl) rfl rfl rfl ?_
 refine VSt.go za false [] 200 rfl AllP.n ?_
 refine z05 (z00 0 (eHp h) rfl rfl) ?_
 refine z0W za l.length (by omega) [1,2,9] (fun _=>[]) (fun _=>[]) (fun k=>∀ i,i<k→okT h l i=true) rfl rfl rfl (fun _=>rfl) rfl rfl z0l trivial (fun i hi=>absurd hi (Nat.not_lt_zero i)) (fun k hk hp=>?_) (fun hp=>?_)
 ·refine VSt.go za false [] 200 rfl (AllP.c ‹_› (AllP.c rfl AllP.n)) ?_
  refine VSt.pc rfl rfl rfl rfl rfl rfl rfl rfl ((za7 (h:=h) (id:=(zg l k).id) hw)) ?_
  refine VSt.go za false [] 200 rfl AllP.n ?_
  refine zi 25 rfl (fun h1=>?_) (fun h1=>?_)
  ·have h1:(!(toS h (zg l k).id==0))=true:=h1
   have h1':(toS h (zg l k).id==0)=false:=by simpa using h1
   refine VSt.go za false [30] 200 rfl (AllP.c (by unfold inR;(try simp only [Int.ofNat_eq_natCast]);omega) AllP.n) ?_
   refine zw 27 (nv (k+1)) rfl (AImp.refl _) ?_
   refine VSt.go za false [] 200 rfl AllP.n ?_
   refine zi 31 rfl (fun h2=>?_) (fun h2=>?_)
   ·have h2:(Int.ofNat (k+1)==Int.ofNat l.length)=true:=h2
    have e:k+1=l.length:=by
     have:=eq_of_beq h2
     simp only [Int.ofNat_eq_natCast] at this
     omega
    refine VSt.go za false [] 200 rfl AllP.n ?_
    refine EndsP.mk rfl rfl rfl ?_
    show bv false=bv _
    rw [show zdZ h l=false from zaT hk (by unfold okT;rw [h1',decide_eq_false (by omega)];rfl)]
   ·have h2:(Int.ofNat (k+1)==Int.ofNat l.length)=false:=h2
    have e:k+1<l.length:=by
     have h3:k+1≠l.length:=fun g=>by rw [g,beq_self_eq_true] at h2;cases h2
     omega
    refine VSt.go za false [35] 200 rfl (AllP.c (by unfold inR;(try simp only [Int.ofNat_eq_natCast]);omega) AllP.n) ?_
    refine zw 34 (nv (k+1)) rfl (AImp.refl _) ?_
    refine VSt.go za false [] 200 rfl (AllP.c ‹_› (AllP.c rfl AllP.n)) ?_
    refine VSt.cond rfl (fun h3=>?_) (fun h3=>?_)
    ·have h3:(!((zg l (k+1)).id==toS h (zg l k).id))=true:=h3
     refine VSt.go za false [] 200 rfl AllP.n ?_
     refine EndsP.mk rfl rfl rfl ?_
     show bv false=bv _
     rw [show zdZ h l=false from zaT hk (by unfold okT;rw [h1',show ((zg l (k+1)).id==toS h (zg l k).id)=false by simpa using h3,Bool.and_false];rfl)]
    ·have h3:(!((zg l (k+1)).id==toS h (zg l k).id))=false:=h3
     refine VSt.go za false [] 200 rfl AllP.n ?_
     exact ⟨by (refine Vw.drop (by repeat (first | exact zu | refine zk rfl rfl rfl ?_ | refine zA rfl ‹_› (zt _ ‹_›) ?_))),z0e hp (by unfold okT;rw [show ((zg l (k+1)).id==toS h (zg l k).id)=true by simpa using h3,decide_eq_true e];simp)⟩
  ·have h1:(!(toS h (zg l k).id==0))=false:=h1
   refine VSt.go za false [] 200 rfl AllP.n ?_
   exact ⟨by (refine Vw.drop (by repeat (first | exact zu | refine zk rfl rfl rfl ?_ | refine zA rfl ‹_› (zt _ ‹_›) ?_))),z0e hp (by unfold okT;rw [show (toS h (zg l k).id==0)=true by simpa using h1];rfl)⟩
 ·refine VSt.go za false [] 200 rfl AllP.n ?_
  refine EndsP.mk rfl rfl rfl ?_
  show bv true=bv _
  rw [show zdZ h l=true from allB_iff.2 hp]
structure BitS (s:Sht):Prop where
 h1:s.holes=Int.ofNat s.holes.toNat
 h2:s.holes.toNat≤4095
 u1:s.unsure=Int.ofNat s.unsure.toNat
 u2:s.unsure.toNat≤4095
theorem OkS.bit {s:Sht} (h:OkS s):BitS s:=by
 have a:=wth_iff.1 h.holes
 have b:=wth_iff.1 h.unsure
 refine ⟨?_,?_,?_,?_⟩
 ·simp only [Int.ofNat_eq_natCast];omega
 ·omega
 ·simp only [Int.ofNat_eq_natCast];omega
 ·omega
def z5F (s:Sht) (w:Nat):Bool:=s.holes.toNat.testBit w
def zhX (s:Sht) (w:Nat):Bool:=(s.holes.toNat ||| s.unsure.toNat).testBit w
def spF (l:List Sht) (w:Nat):Nat→Int
 | 0=> -1
 | k+1=>bif z5F (zg l k) w then (bif decide (spF l w k<0) then Int.ofNat k else spF l w k) else spF l w k
def spL (l:List Sht) (w:Nat):Nat→Int
 | 0=> -1
 | k+1=>bif z5F (zg l k) w then Int.ofNat k else spL l w k
set_option maxHeartbeats 4000000 in
theorem zlv {b:Bool} {l:List Sht} {w:Nat} (hl:l.length≤1000000) (hw:w<64) (hb:∀ k,k<l.length→BitS (zg l k)):VP (sE r) 105 [.p (z1t b l),nv w] (.agg [iv (spF l w l.length),iv (spL l w l.length)]):=by
 refine VP.of (fn:=Tryz.f105) za (zH rfl) (by kernel_rfl) rfl rfl rfl ?_
 refine VSt.go za false [] 200 rfl AllP.n ?_
 refine z0W za l.length (by omega) [1,4,5,9] (fun _=>[]) (fun k=>[(1,.cells [iv (spF l w k),iv (spL l w k)] 32),(0,.cells [iv 0,iv 0] 32)]) (fun _=>True) rfl rfl rfl (fun _=>rfl) rfl rfl z0l (LImp.refl _) trivial (fun k hk _=>?_) (fun _=>?_)
 ·have hB:=hb k hk
  have hh:=hB.h2
  have hm:(zg l k).holes.toNat<9223372036854775808:=by omega
  refine VSt.go za false [] 200 rfl (AllP.c ‹_› (AllP.c rfl AllP.n)) ?_
  refine zw 17 (iv (Int.ofNat (zg l k).holes.toNat)) rfl (z04 (congrArg iv hB.h1)) ?_
  refine VSt.pc rfl rfl rfl rfl rfl rfl rfl rfl ((zhU (m:=(zg l k).holes.toNat) (k:=w) hw hm)) ?_
  refine VSt.go za false [] 200 rfl AllP.n ?_
  refine VSt.cond rfl (fun h1=>?_) (fun h1=>?_)
  ·have h1:z5F (zg l k) w=false:=by simpa using (show (!z5F (zg l k) w)=true from h1)
   have e1:spF l w (k+1)=spF l w k:=by show (bif z5F (zg l k) w then _ else _)=_;rw [h1];rfl
   have e2:spL l w (k+1)=spL l w k:=by show (bif z5F (zg l k) w then _ else _)=_;rw [h1];rfl
   refine VSt.go za false [] 200 rfl AllP.n ?_
   refine ⟨?_,trivial⟩
   dsimp only
   rw [e1,e2]
   refine z1a (ps:=[(1,1),(0,0)]) ⟨rfl,rfl,(by repeat (first | exact zu | refine zk rfl rfl rfl ?_)),_,rfl,(⟨rfl,BImp.refl _,rfl,BImp.refl _,trivial⟩)⟩
  ·have h1:z5F (zg l k) w=true:=by simpa using (show (!z5F (zg l k) w)=false from h1)
   have e2:spL l w (k+1)=Int.ofNat k:=by show (bif z5F (zg l k) w then _ else _)=_;rw [h1];rfl
   refine VSt.go za false [] 200 rfl AllP.n ?_
   refine VSt.cond rfl (fun h2=>?_) (fun h2=>?_)
   ·have h2:decide (spF l w k<0)=true:=h2
    have e1:spF l w (k+1)=Int.ofNat k:=by show (bif z5F (zg l k) w then (bif decide (spF l w k<0) then _ else _) else _)=_;rw [h1,h2];rfl
    refine VSt.go za false [] 200 rfl AllP.n ?_
    refine ⟨?_,trivial⟩
    dsimp only
    rw [e1,e2]
    refine z1a (ps:=[(1,1),(0,0)]) ⟨rfl,rfl,(by repeat (first | exact zu | refine zk rfl rfl rfl ?_)),_,rfl,(⟨rfl,BImp.refl _,rfl,BImp.refl _,trivial⟩)⟩
   ·have h2:decide (spF l w k<0)=false:=h2
    have e1:spF l w (k+1)=spF l w k:=by show (bif z5F (zg l k) w then (bif decide (spF l w k<0) then _ else _) else _)=_;rw [h1,h2];rfl
    refine VSt.go za false [] 200 rfl AllP.n ?_
    refine ⟨?_,trivial⟩
    dsimp only
    rw [e1,e2]
    refine z1a (ps:=[(1,1),(0,0)]) ⟨rfl,rfl,(by repeat (first | exact zu | refine zk rfl rfl rfl ?_)),_,rfl,(⟨rfl,BImp.refl _,rfl,BImp.refl _,trivial⟩)⟩
 ·refine VSt.go za false [] 200 rfl AllP.n ?_
  exact EndsP.mk rfl rfl rfl rfl
theorem zlw (l:List Sht) (w:Nat):∀ k,(spF l w k = -1∧spL l w k = -1∧∀ i,i<k→z5F (zg l i) w=false) ∨
  ∃ a b,spF l w k=Int.ofNat a∧spL l w k=Int.ofNat b∧a≤b∧b<k∧z5F (zg l a) w=true∧z5F (zg l b) w=true∧(∀ i,i<a→z5F (zg l i) w=false)∧∀ i,b<i→i<k→z5F (zg l i) w=false
 | 0=>.inl ⟨rfl,rfl,none0⟩
 | k+1=>by
  have ih:=zlw l w k
  have e1:spF l w (k+1)=bif z5F (zg l k) w then (bif decide (spF l w k<0) then Int.ofNat k else spF l w k) else spF l w k:=rfl
  have e2:spL l w (k+1)=bif z5F (zg l k) w then Int.ofNat k else spL l w k:=rfl
  cases hh:z5F (zg l k) w with
  | false =>
   rw [hh] at e1 e2
   rcases ih with ⟨h1,h2,h3⟩ | ⟨a,b,h1,h2,h3,h4,h5,h6,h7,h8⟩
   ·exact .inl ⟨e1.trans h1,e2.trans h2,z0e h3 hh⟩
   ·refine .inr ⟨a,b,e1.trans h1,e2.trans h2,h3,by omega,h5,h6,h7,fun i hi hk=>?_⟩
    by_cases c:i=k
    ·rw [c];exact hh
    ·exact h8 i hi (by omega)
  | true =>
   rw [hh] at e1 e2
   rcases ih with ⟨h1,h2,h3⟩ | ⟨a,b,h1,h2,h3,h4,h5,h6,h7,h8⟩
   ·rw [h1] at e1
    exact .inr ⟨k,k,e1,e2,Nat.le_refl _,Nat.lt_succ_self _,hh,hh,h3,fun i hi hk=>by omega⟩
   ·rw [h1,decide_eq_false (show ¬ Int.ofNat a<0 by simp only [Int.ofNat_eq_natCast];omega)] at e1
    exact .inr ⟨a,k,e1,e2,by omega,Nat.lt_succ_self _,h5,hh,h7,fun i hi hk=>by omega⟩
def z5H (l:List Sht) (w a:Nat):Nat→Bool
 | 0=>false
 | j+1=>z5H l w a j || !zhX (zg l (a+j)) w
def brB (l:List Sht) (w:Nat):Bool:=decide (0≤spF l w l.length)&&z5H l w (spF l w l.length).toNat ((spL l w l.length).toNat+1 - (spF l w l.length).toNat)
def zR (l:List Sht):Nat→Nat
 | 0=>0
 | w+1=>bif brB l w then zR l w ||| 1 <<< w else zR l w
theorem z6Z (l:List Sht):∀ w,zR l w<2 ^ w
 | 0=>by show 0<2 ^ 0;decide
 | w+1=>by
  have ih:=z6Z l w
  have h:2 ^ w<2 ^ (w+1):=Nat.pow_lt_pow_right (by decide) (Nat.lt_succ_self w)
  show (bif brB l w then zR l w ||| 1 <<< w else zR l w)<_
  cases brB l w with
  | true=>exact Nat.or_lt_two_pow (Nat.lt_trans ih h) (by rw [Nat.one_shiftLeft];exact h)
  | false=>exact Nat.lt_trans ih h
set_option maxHeartbeats 8000000 in
theorem ziB {b:Bool} {l:List Sht} (hl:l.length≤1000000) (hb:∀ k,k<l.length→BitS (zg l k)):VP (sE r) 121 [.p (z1t b l)] (iv (Int.ofNat (zR l 12))):=by
 refine VP.of (fn:=Tryz.f121) za (zH rfl) (by kernel_rfl) rfl rfl rfl ?_
 refine VSt.go za false [] 200 rfl AllP.n ?_
 refine z09 (ti:=8) 12 [0] (fun w=>[(3,iv (Int.ofNat (zR l w)))]) (fun _=>[]) (fun _=>True) rfl rfl (z0L rfl (AImp.refl _) z0l) trivial trivial (fun w hw _=>?_)
 refine VSt.go za false [] 200 rfl AllP.n ?_
 refine VSt.cond rfl (fun g=>?_) (fun g=>?_)
 ·have g:=nlt (n:=12) g
  refine VSt.go za false [] 200 rfl AllP.n ?_
  refine VSt.pc rfl rfl rfl rfl rfl rfl rfl rfl ((zlv (w:=w) hl (by omega) hb)) ?_
  refine VSt.go za false [] 200 rfl AllP.n ?_
  refine VSt.cond rfl (fun h1=>?_) (fun h1=>?_)
  ·have h1:decide (spF l w l.length<0)=true:=h1
   have e1:zR l (w+1)=zR l w:=by
    have h2:=of_decide_eq_true h1
    show (bif brB l w then _ else _)=_
    rw [show brB l w=false by unfold brB;rw [decide_eq_false (by omega)];rfl];rfl
   refine VSt.go za false [] 200 rfl (AllP.c (by unfold inR;(try simp only [Int.ofNat_eq_natCast]);omega) AllP.n) ?_
   refine ⟨g,?_,trivial⟩
   dsimp only
   rw [e1]
   (refine Vw.drop (by repeat (first | exact zu | refine zk rfl rfl rfl ?_ | refine zA rfl ‹_› (zt _ ‹_›) ?_)))
  have h1:decide (spF l w l.length<0)=false:=h1
  have h2:=of_decide_eq_false h1
  rcases zlw l w l.length with ⟨h3,_⟩ | ⟨a,c,h3,h4,h5,h6,h7,h8,h9,h10⟩
  ·exact absurd h3 (by omega)
  have hlt:zR l w<9223372036854775808:=Nat.lt_of_lt_of_le (z6Z l w) (Nat.le_trans (Nat.pow_le_pow_right (by decide) (show w≤12 by omega)) (by decide))
  have e1:zR l (w+1)=bif z5H l w a (c+1 - a) then zR l w ||| 1 <<< w else zR l w:=by
   show (bif brB l w then _ else _)=_
   unfold brB
   rw [h3,h4,decide_eq_true (show 0≤Int.ofNat a by simp only [Int.ofNat_eq_natCast];omega)]
   rfl
  refine VSt.go za false [20] 200 rfl AllP.n ?_
  refine zw 19 (nv a) rfl (z0K h3) ?_
  refine VSt.go za false [22] 200 rfl AllP.n ?_
  refine zw 21 (nv c) rfl (z0K h4) ?_
  refine VSt.go za false [23] 200 rfl (AllP.c (by unfold inR;(try simp only [Int.ofNat_eq_natCast]);omega) AllP.n) ?_
  refine zw 22 (nv (c+1)) rfl (AImp.refl _) ?_
  refine VSt.go za false [] 200 rfl (AllP.c (by omega) (AllP.c ‹_› (AllP.c (fun _ _=>rfl) AllP.n))) ?_
  refine z05 (Vw.kp [0,3,4,8,23,24,25] [] rfl) ?_
  refine z0W za (c+1 - a) (by omega) [0,4,8,23] (fun j=>[(3,iv (Int.ofNat (bif z5H l w a j then zR l w ||| 1 <<< w else zR l w)))]) (fun _=>[]) (fun _=>True) rfl rfl rfl (fun _=>rfl) rfl rfl (z0L rfl (AImp.refl _) z0l) trivial trivial (fun j hj _=>?_) (fun _=>?_)
  ·have hB:=hb (a+j) (by omega)
   have q1:=hB.h2
   have q2:=hB.u2
   have q3:(zg l (a+j)).holes.toNat<9223372036854775808:=by omega
   have q4:(zg l (a+j)).unsure.toNat<9223372036854775808:=by omega
   have q5:(zg l (a+j)).holes.toNat ||| (zg l (a+j)).unsure.toNat<9223372036854775808:=Nat.lt_of_lt_of_le (Nat.or_lt_two_pow (n:=12) (by omega) (by omega)) (by decide)
   have q6:zR l w ||| 1 <<< w<9223372036854775808:=Nat.lt_of_lt_of_le (Nat.or_lt_two_pow (n:=13) (Nat.lt_of_lt_of_le (z6Z l w) (Nat.pow_le_pow_right (by decide) (by omega))) (by rw [Nat.one_shiftLeft];exact Nat.pow_lt_pow_right (by decide) (by omega))) (by decide)
   have q7:(bif z5H l w a j then zR l w ||| 1 <<< w else zR l w)<9223372036854775808:=by cases z5H l w a j <;> assumption
   have e2:z5H l w a (j+1)=(z5H l w a j || !zhX (zg l (a+j)) w):=rfl
   refine VSt.go za false [31] 200 rfl (AllP.c ‹_› (AllP.c rfl AllP.n)) ?_
   refine zw 30 (iv (Int.ofNat (zg l (a+j)).holes.toNat)) rfl (z04 (congrArg iv hB.h1)) ?_
   refine VSt.go za false [33] 200 rfl AllP.n ?_
   refine zw 32 (iv (Int.ofNat (zg l (a+j)).unsure.toNat)) rfl (z04 (congrArg iv hB.u1)) ?_
   refine VSt.go za false [] 200 rfl (AllP.c ‹_› (AllP.c ‹_› AllP.n)) ?_
   refine VSt.pc rfl rfl rfl rfl rfl rfl rfl rfl ((zhU (m:=(zg l (a+j)).holes.toNat ||| (zg l (a+j)).unsure.toNat) (k:=w) (by omega) q5)) ?_
   refine VSt.go za false [] 200 rfl AllP.n ?_
   refine VSt.cond rfl (fun h11=>?_) (fun h11=>?_)
   ·have h11:(!zhX (zg l (a+j)) w)=true:=h11
    have e3:(bif z5H l w a j then zR l w ||| 1 <<< w else zR l w) ||| 1 <<< w=bif z5H l w a (j+1) then zR l w ||| 1 <<< w else zR l w:=by
     rw [e2,h11,Bool.or_true]
     cases z5H l w a j with
     | true=>show zR l w ||| 1 <<< w ||| 1 <<< w=zR l w ||| 1 <<< w;rw [Nat.or_assoc,Nat.or_self]
     | false=>rfl
    refine VSt.go za false [] 200 rfl AllP.n ?_
    refine VSt.pc rfl rfl rfl rfl rfl rfl rfl rfl ((zcz (k:=w) (by omega) q7)) ?_
    refine VSt.go za false [] 200 rfl AllP.n ?_
    refine ⟨?_,trivial⟩
    dsimp only
    rw [←e3]
    (refine Vw.drop (by repeat (first | exact zu | refine zk rfl rfl rfl ?_ | refine zA rfl ‹_› (zt _ ‹_›) ?_)))
   ·have h11:(!zhX (zg l (a+j)) w)=false:=h11
    refine VSt.go za false [] 200 rfl AllP.n ?_
    refine ⟨?_,trivial⟩
    dsimp only
    rw [e2,h11,Bool.or_false]
    (refine Vw.drop (by repeat (first | exact zu | refine zk rfl rfl rfl ?_ | refine zA rfl ‹_› (zt _ ‹_›) ?_)))
  ·refine VSt.go za false [] 200 rfl (AllP.c (by unfold inR;(try simp only [Int.ofNat_eq_natCast]);omega) AllP.n) ?_
   refine ⟨g,?_,trivial⟩
   dsimp only
   rw [e1]
   (refine Vw.drop (by repeat (first | exact zu | refine zk rfl rfl rfl ?_ | refine zA rfl ‹_› (zt _ ‹_›) ?_)))
 ·have g:w=12:=by have:=nge (n:=12) g;omega
  subst g
  refine VSt.go za false [] 200 rfl AllP.n ?_
  exact EndsP.mk rfl rfl rfl rfl
end Go.Proofs.YtdpipdniklognaaGreat
/- Walks: the iterator of orders. -/
set_option maxRecDepth 100000
namespace Go.Proofs.YtdpipdniklognaaGreat
variable {r:Rm}
theorem zaL {h:Hp} (hO:OkH h) (p:Int):(zW h.st p).length≤7:=by
 cases hb:zW h.st p with
 | nil=>exact Nat.zero_le _
 | cons x t =>
  have hx:x∈zW h.st p:=by rw [hb];exact List.mem_cons_self ..
  obtain ⟨h1,h2⟩:=List.mem_filter.1 hx
  obtain ⟨k,hk,e⟩:=z0I (d:=default) h1
  have h3:=hO.few k hk
  have e2:zg h.st k=x:=e
  rw [e2,eq_of_beq h2] at h3
  rw [←hb];exact h3
theorem zlJ {h:Hp} (hO:OkH h) {p:Int} {row:List Nat} (hr:∀ i∈row,i<(zW h.st p).length):∀ k,k<(zX (zW h.st p) row).length→BitS (zg (zX (zW h.st p) row) k):=by
 intro k hk
 have h1:zg (zX (zW h.st p) row) k∈zX (zW h.st p) row:=z0J hk
 obtain ⟨i,hi,e⟩:=List.mem_map.1 (show zg (zX (zW h.st p) row) k∈row.reverse.map fun i=>zg (zW h.st p) i from h1)
 rw [←e]
 have h2:zg (zW h.st p) i∈zW h.st p:=z0J (hr i (List.mem_reverse.1 hi))
 obtain ⟨h3,_⟩:=List.mem_filter.1 h2
 obtain ⟨q,hq,e2⟩:=z0I (d:=default) h3
 have e3:zg h.st q=zg (zW h.st p) i:=e2
 rw [←e3];exact (hO.ok q hq).bit
theorem zi1 {h:Hp} {l:List Sht}:∀ f {row0 row:List Nat},row∈z7B h l f row0→(∀ i∈row0,i<l.length)→∀ i∈row,i<l.length
 | 0,row0,row,hm,h0=>by
  have:row=row0:=List.mem_singleton.1 hm
  rw [this];exact h0
 | f+1,row0,row,hm,h0=>by
  obtain ⟨i,hi,hx⟩:=List.mem_flatMap.1 (show row∈(List.range l.length).flatMap fun i=>bif okR h l row0 i then z7B h l f (i::row0) else [] from hm)
  cases hk:okR h l row0 i with
  | false=>rw [hk] at hx;cases hx
  | true =>
   rw [hk] at hx
   refine zi1 f hx fun k hk=>?_
   rcases List.mem_cons.1 hk with rfl | hk
   ·exact List.mem_range.1 hi
   ·exact h0 k hk
theorem ze6 {h:Hp} {l:List Sht} {row:List Nat} (hm:row∈zcS h l):∀ i∈row,i<l.length:=zi1 _ hm fun i hi=>by cases hi
theorem zhu {n:Nat} {g:Nat→Sht} {rl:List Sht} (hn:n=rl.length) (hg:∀ k,k<n→g k=zg rl k):AImp (.p (.lst 74 false n fun q=>y5 (g q))) (.p (z1t false rl)):=by
 subst hn
 exact AImp.lst fun k hk=>by rw [hg k hk];rfl
theorem z4s (m:Nat):(Int.ofNat m==0)=(m==0):=by
 rw [Bool.eq_iff_iff,beq_iff_eq,beq_iff_eq]
 simp only [Int.ofNat_eq_natCast];omega
end Go.Proofs.YtdpipdniklognaaGreat
/- Walks: loops over the orders: Count, nth, Order, Nth. -/
set_option maxRecDepth 100000
namespace Go.Proofs.YtdpipdniklognaaGreat
variable {r:Rm}
theorem VSt.scope {E:Env} {N:Nat} {st:List Nat} {rd:Option Nat} {Q:zN} {c:Code} {K:List KI} {F:VK} {L:VS} (h:VSt.H E N st rd Q (.code c K F L)):VSt.H E N st rd Q (.code (.scope c) K F L):=by
 intro T S Z j h1 h2 h3 h4
 obtain ⟨n,r,h5,h6⟩:=h T S Z j h1 h2 h3 h4
 exact ⟨n+1,r,fun m hm=>by obtain ⟨k,rfl,hk⟩:=zh hm;exact h5 (k+1) (by omega),h6⟩
theorem VSt.label {E:Env} {N:Nat} {st:List Nat} {rd:Option Nat} {Q:zN} {n:Nat} {K:List KI} {F:VK} {L:VS} (h:VSt.H E N st rd Q (.ex .normal K F L)):VSt.H E N st rd Q (.code (.label n) K F L):=fun T S Z j h1 h2 h3 h4 =>
 ⟨1,⟨.normal,T,S⟩,fun m hm=>by obtain ⟨k,rfl,_⟩:=zh hm;rfl,F,L,Z,j,z3h h1 h2 h3 h4,h⟩
end Go.Proofs.YtdpipdniklognaaGreat
/- Walks: whether a list is an order. -/
set_option maxRecDepth 100000
namespace Go.Proofs.YtdpipdniklognaaGreat
variable {r:Rm}
end Go.Proofs.YtdpipdniklognaaGreat
/- Walks of the reference: threaded, sews, Index, Has, broken. -/
set_option maxRecDepth 100000
namespace Go.Proofs.YtdpipdniklognaaGreat
variable {r:Rm}
def zQ (b:Bool) (l:List Nat):PV:=z7h b (l.map Int.ofNat)
def zy (l:List Nat) (k:Nat):Nat:=l.getD k 0
theorem z0H {l:List Nat} {k:Nat}:(l.map Int.ofNat).getD k 0=Int.ofNat (zy l k):=by
 unfold zy
 simp only [List.getD_eq_getElem?_getD,List.getElem?_map]
 cases l[k]? <;> rfl
def zg2 (h:Hp) (s:Sht):Bool:=h.sw.any fun x=>x.too==s.id
def zgL (h:Hp) (s:Sht):Bool:=h.sw.any fun x=>x.fro==s.id
theorem zaR {p:Sew→Bool} {w:List Sew} {k:Nat} (hk:k<w.length) (h:p (zF w k)=true):w.any p=true:=List.any_eq_true.2 ⟨_,z0J hk,h⟩
theorem z7M {p:Sew→Bool} {w:List Sew} (h:∀ k,k<w.length→p (zF w k)=false):w.any p=false:=by
 rw [←Bool.not_eq_true,List.any_eq_true]
 rintro ⟨x,hx,h1⟩
 obtain ⟨k,hk,e⟩:=z0I (d:=default) hx
 have:=h k hk
 rw [show zF w k=x from e,h1] at this;cases this
theorem zcL {h:Hp} {i:Nat} (hi:i<h.st.length) (hw:h.sw.length<9223372036854775808):VP (sE r) 143 [.agg ((eHp h).map .p),nv i] (bv (zg2 h (zg h.st i))):=by
 refine VP.of (fn:=Tryz.f143) za (zH rfl) (by kernel_rfl) rfl rfl rfl ?_
 refine VSt.go za false [] 200 rfl AllP.n ?_
 refine z05 (z00 0 (eHp h) rfl rfl) ?_
 refine z09 (ti:=5) h.sw.length [1,2] (fun _=>[]) (fun _=>[]) (fun k=>∀ q,q<k→((zF h.sw q).too==(zg h.st i).id)=false) rfl rfl z0l trivial none0 (fun k hk hp=>?_)
 refine VSt.go za false [] 200 rfl AllP.n ?_
 refine VSt.cond rfl (fun g=>?_) (fun g=>?_)
 ·have g:=nlt g
  refine VSt.go za false [] 200 rfl (AllP.c ‹_› (AllP.c rfl (AllP.c ‹_› (AllP.c rfl AllP.n)))) ?_
  refine VSt.cond rfl (fun h1=>?_) (fun h1=>?_)
  ·have h1:((zF h.sw k).too==(zg h.st i).id)=true:=h1
   refine VSt.go za false [] 200 rfl AllP.n ?_
   refine EndsP.mk rfl rfl rfl ?_
   show bv true=bv _
   rw [show zg2 h (zg h.st i)=true from zaR (p:=fun x:Sew=>x.too==(zg h.st i).id) g h1]
  ·have h1:((zF h.sw k).too==(zg h.st i).id)=false:=h1
   refine VSt.go za false [] 200 rfl (AllP.c (by unfold inR;(try simp only [Int.ofNat_eq_natCast]);omega) AllP.n) ?_
   exact ⟨g,by (refine Vw.drop (by repeat (first | exact zu | refine zk rfl rfl rfl ?_ | refine zA rfl ‹_› (zt _ ‹_›) ?_))),z0e hp h1⟩
 ·have g:k=h.sw.length:=by have:=nge g;omega
  subst g
  refine VSt.go za false [] 200 rfl AllP.n ?_
  refine EndsP.mk rfl rfl rfl ?_
  show bv false=bv _
  rw [show zg2 h (zg h.st i)=false from z7M (p:=fun x:Sew=>x.too==(zg h.st i).id) hp]
theorem zlx {h:Hp} {i:Nat} (hi:i<h.st.length) (hw:h.sw.length<9223372036854775808):VP (sE r) 144 [.agg ((eHp h).map .p),nv i] (bv (zgL h (zg h.st i))):=by
 refine VP.of (fn:=Tryz.f144) za (zH rfl) (by kernel_rfl) rfl rfl rfl ?_
 refine VSt.go za false [] 200 rfl AllP.n ?_
 refine z05 (z00 0 (eHp h) rfl rfl) ?_
 refine z09 (ti:=5) h.sw.length [1,2] (fun _=>[]) (fun _=>[]) (fun k=>∀ q,q<k→((zF h.sw q).fro==(zg h.st i).id)=false) rfl rfl z0l trivial none0 (fun k hk hp=>?_)
 refine VSt.go za false [] 200 rfl AllP.n ?_
 refine VSt.cond rfl (fun g=>?_) (fun g=>?_)
 ·have g:=nlt g
  refine VSt.go za false [] 200 rfl (AllP.c ‹_› (AllP.c rfl (AllP.c ‹_› (AllP.c rfl AllP.n)))) ?_
  refine VSt.cond rfl (fun h1=>?_) (fun h1=>?_)
  ·have h1:((zF h.sw k).fro==(zg h.st i).id)=true:=h1
   refine VSt.go za false [] 200 rfl AllP.n ?_
   refine EndsP.mk rfl rfl rfl ?_
   show bv true=bv _
   rw [show zgL h (zg h.st i)=true from zaR (p:=fun x:Sew=>x.fro==(zg h.st i).id) g h1]
  ·have h1:((zF h.sw k).fro==(zg h.st i).id)=false:=h1
   refine VSt.go za false [] 200 rfl (AllP.c (by unfold inR;(try simp only [Int.ofNat_eq_natCast]);omega) AllP.n) ?_
   exact ⟨g,by (refine Vw.drop (by repeat (first | exact zu | refine zk rfl rfl rfl ?_ | refine zA rfl ‹_› (zt _ ‹_›) ?_))),z0e hp h1⟩
 ·have g:k=h.sw.length:=by have:=nge g;omega
  subst g
  refine VSt.go za false [] 200 rfl AllP.n ?_
  refine EndsP.mk rfl rfl rfl ?_
  show bv false=bv _
  rw [show zgL h (zg h.st i)=false from z7M (p:=fun x:Sew=>x.fro==(zg h.st i).id) hp]
def zO (h:Hp) (l:List Nat):List Sht:=l.map fun i=>zg h.st i
theorem zcP {h:Hp} {l:List Nat} {k:Nat} (hk:k<l.length):zg (zO h l) k=zg h.st (zy l k):=by
 unfold zO zg zy
 rw [z0f (show k<(l.map fun i=>h.st.getD i default).length by rw [List.length_map];exact hk),List.getElem_map,z0f hk]
theorem zaS (m w:Nat):((Int.ofNat (m &&& 1 <<< w)==0):Bool) = !m.testBit w:=by
 rw [Nat.one_shiftLeft]
 cases hb:m.testBit w with
 | true =>
  have h1:(m &&& 2 ^ w).testBit w=true:=by rw [Nat.testBit_and,hb,Nat.testBit_two_pow_self];rfl
  have h2:m &&& 2 ^ w≠0:=fun e=>by rw [e,Nat.zero_testBit] at h1;cases h1
  rw [show (Int.ofNat (m &&& 2 ^ w)==0)=false from by
   rw [←Bool.not_eq_true,beq_iff_eq]
   intro e
   exact h2 (Int.ofNat_inj.1 (show Int.ofNat (m &&& 2 ^ w)=Int.ofNat 0 from e))]
  rfl
 | false =>
  have h1:m &&& 2 ^ w=0:=Nat.eq_of_testBit_eq fun i=>by
   rw [Nat.testBit_and,Nat.testBit_two_pow,Nat.zero_testBit]
   by_cases e:w=i
   ·subst e;rw [hb];rfl
   ·rw [decide_eq_false e,Bool.and_false]
  rw [h1];rfl
end Go.Proofs.YtdpipdniklognaaGreat
/- Walks of the reference: broken. -/
set_option maxRecDepth 100000
namespace Go.Proofs.YtdpipdniklognaaGreat
variable {r:Rm}
theorem zk6 {l:List Sht} {w a:Nat}:∀ {j:Nat},z5F (zg l (a+j)) w=true→z5H l w a (j+1)=z5H l w a j:=fun {j} h=>by
 have h2:zhX (zg l (a+j)) w=true:=by
  unfold z5F at h
  unfold zhX
  rw [Nat.testBit_or,h];rfl
 show (z5H l w a j || !zhX (zg l (a+j)) w)=_
 rw [h2,Bool.or_comm];rfl
set_option maxHeartbeats 8000000 in
theorem z9n {h:Hp} {b:Bool} {l:List Nat} (hbit:∀ i,i<h.st.length→BitS (zg h.st i)) (hl:l.length≤1000) (hin:∀ k,k<l.length→zy l k<h.st.length):VP (sE r) 145 [.agg ((eHp h).map .p),.p (zQ b l)] (iv (Int.ofNat (zR (zO h l) 12))):=by
 have hsl:(zO h l).length=l.length:=List.length_map _
 have hlm:(l.map Int.ofNat).length=l.length:=List.length_map _
 refine VP.of (fn:=Tryz.f145) za (zH rfl) (by kernel_rfl) rfl rfl rfl ?_
 refine VSt.go za false [] 200 rfl AllP.n ?_
 refine z05 (z00 0 (eHp h) rfl rfl) ?_
 refine z09 (ti:=6) 12 [1,2] (fun w=>[(5,iv (Int.ofNat (zR (zO h l) w)))]) (fun _=>[]) (fun _=>True) rfl rfl (z0L rfl (AImp.refl _) z0l) trivial trivial (fun w hw _=>?_)
 refine VSt.go za false [] 200 rfl AllP.n ?_
 refine VSt.cond rfl (fun g=>?_) (fun g=>?_)
 rotate_left
 ·have g:w=12:=by have:=nge (n:=12) g;omega
  subst g
  refine VSt.go za false [] 200 rfl AllP.n ?_
  exact EndsP.mk rfl rfl rfl rfl
 have g:=nlt (n:=12) g
 have hb1:1 <<< w<9223372036854775808:=by rw [Nat.one_shiftLeft];exact Nat.lt_of_lt_of_le (Nat.pow_lt_pow_right (by decide) (show w<13 by omega)) (by decide)
 have hw64:w<64:=by omega
 refine VSt.go za false [] 200 rfl AllP.n ?_
 refine z09 (ti:=9) l.length [1,2,5,6] (fun k=>[(7,iv (spF (zO h l) w k)),(8,iv (spL (zO h l) w k))]) (fun _=>[]) (fun _=>True) rfl rfl (z0L rfl (AImp.refl _) (z0L rfl (AImp.refl _) z0l)) trivial trivial (fun k hk _=>?_)
 refine VSt.go za false [] 200 rfl AllP.n ?_
 refine VSt.cond rfl (fun g2=>?_) (fun g2=>?_)
 ·have g2:k<l.length:=by have:=nlt g2;omega
  have hin2:=hin k g2
  have hB:=hbit _ hin2
  have hm:(zg h.st (zy l k)).holes.toNat<9223372036854775808:=by have:=hB.h2;omega
  have hs:=zcP (h:=h) g2
  have hkm:k<(l.map Int.ofNat).length:=by omega
  refine VSt.go za false [28] 200 rfl (AllP.c ‹_› (AllP.c rfl AllP.n)) ?_
  refine z02 27 (nv (zy l k)) rfl (z0K z0H) ?_
  refine VSt.go za false [31] 200 rfl (AllP.c ‹_› (AllP.c rfl AllP.n)) ?_
  refine z02 30 (iv (Int.ofNat (zg h.st (zy l k)).holes.toNat)) rfl (z04 (congrArg iv hB.h1)) ?_
  refine VSt.go za false [] 200 rfl (AllP.c ‹_› (AllP.c ‹_› (AllP.c ‹_› (AllP.c ‹_› AllP.n)))) ?_
  have hbb:=zaS (zg h.st (zy l k)).holes.toNat w
  have hhs:z5F (zg (zO h l) k) w=(zg h.st (zy l k)).holes.toNat.testBit w:=by rw [hs];rfl
  refine VSt.cond rfl (fun h1=>?_) (fun h1=>?_)
  ·have h1:(!(Int.ofNat ((zg h.st (zy l k)).holes.toNat &&& 1 <<< w)==0))=true:=h1
   have hh:z5F (zg (zO h l) k) w=true:=by rw [hhs];rw [hbb] at h1;simpa using h1
   have e2:spL (zO h l) w (k+1)=Int.ofNat k:=by show (bif z5F (zg (zO h l) k) w then _ else _)=_;rw [hh];rfl
   refine VSt.go za false [] 200 rfl AllP.n ?_
   refine VSt.cond rfl (fun h2=>?_) (fun h2=>?_)
   ·have h2:decide (spF (zO h l) w k<0)=true:=h2
    have e1:spF (zO h l) w (k+1)=Int.ofNat k:=by show (bif z5F (zg (zO h l) k) w then (bif decide (spF (zO h l) w k<0) then _ else _) else _)=_;rw [hh,h2];rfl
    refine VSt.go za false [] 200 rfl (AllP.c (by unfold inR;(try simp only [Int.ofNat_eq_natCast]);omega) AllP.n) ?_
    refine ⟨g2,?_,trivial⟩
    dsimp only
    rw [e1,e2]
    (refine Vw.drop (by repeat (first | exact zu | refine zk rfl rfl rfl ?_ | refine zA rfl ‹_› (zt _ ‹_›) ?_)))
   ·have h2:decide (spF (zO h l) w k<0)=false:=h2
    have e1:spF (zO h l) w (k+1)=spF (zO h l) w k:=by show (bif z5F (zg (zO h l) k) w then (bif decide (spF (zO h l) w k<0) then _ else _) else _)=_;rw [hh,h2];rfl
    refine VSt.go za false [] 200 rfl (AllP.c (by unfold inR;(try simp only [Int.ofNat_eq_natCast]);omega) AllP.n) ?_
    refine ⟨g2,?_,trivial⟩
    dsimp only
    rw [e1,e2]
    (refine Vw.drop (by repeat (first | exact zu | refine zk rfl rfl rfl ?_ | refine zA rfl ‹_› (zt _ ‹_›) ?_)))
  ·have h1:(!(Int.ofNat ((zg h.st (zy l k)).holes.toNat &&& 1 <<< w)==0))=false:=h1
   have hh:z5F (zg (zO h l) k) w=false:=by rw [hhs];rw [hbb] at h1;simpa using h1
   have e1:spF (zO h l) w (k+1)=spF (zO h l) w k:=by show (bif z5F (zg (zO h l) k) w then _ else _)=_;rw [hh];rfl
   have e2:spL (zO h l) w (k+1)=spL (zO h l) w k:=by show (bif z5F (zg (zO h l) k) w then _ else _)=_;rw [hh];rfl
   refine VSt.go za false [] 200 rfl (AllP.c (by unfold inR;(try simp only [Int.ofNat_eq_natCast]);omega) AllP.n) ?_
   refine ⟨g2,?_,trivial⟩
   dsimp only
   rw [e1,e2]
   (refine Vw.drop (by repeat (first | exact zu | refine zk rfl rfl rfl ?_ | refine zA rfl ‹_› (zt _ ‹_›) ?_)))
 have g3:k=l.length:=by have:=nge g2;omega
 subst g3
 have ebr:zR (zO h l) (w+1)=bif brB (zO h l) w then zR (zO h l) w ||| 1 <<< w else zR (zO h l) w:=rfl
 have hbrk:brB (zO h l) w=(decide (0≤spF (zO h l) w l.length)&&z5H (zO h l) w (spF (zO h l) w l.length).toNat ((spL (zO h l) w l.length).toNat+1 - (spF (zO h l) w l.length).toNat)):=by unfold brB;rw [hsl]
 have q6:zR (zO h l) w ||| 1 <<< w<9223372036854775808:=Nat.lt_of_lt_of_le (Nat.or_lt_two_pow (n:=13) (Nat.lt_of_lt_of_le (z6Z _ w) (Nat.pow_le_pow_right (by decide) (by omega))) (by rw [Nat.one_shiftLeft];exact Nat.pow_lt_pow_right (by decide) (by omega))) (by decide)
 have q8:zR (zO h l) w<9223372036854775808:=Nat.lt_of_le_of_lt (Nat.left_le_or) q6
 rcases zlw (zO h l) w l.length with ⟨h3,h4,_⟩ | ⟨a,c,h3,h4,h5,h6,h7,h8,h9,h10⟩
 ·have e1:zR (zO h l) (w+1)=zR (zO h l) w:=by rw [ebr,hbrk,h3];rfl
  refine VSt.go za false [40] 200 rfl AllP.n ?_
  refine zw 39 (iv (-1)) rfl (z04 (by rw [h3])) ?_
  refine VSt.go za false [10] 200 rfl AllP.n ?_
  refine zw 8 (iv (-1)) rfl (z04 (by rw [h4])) ?_
  refine VSt.go za false [] 200 rfl AllP.n ?_
  refine VSt.loop (α :=Unit) (fun _ F L=>F=[(10,iv 0),(8,iv (-1)),(5,iv (Int.ofNat (zR (zO h l) w))),(6,nv w),(1,.p (zQ b l)),(2,.p (.fp (eHp h) 0))]∧L=[]) (fun _=>0) () (by (refine Vw.sub' (z7d (by repeat (first | exact z0u | refine z0m rfl ?_))))) ⟨rfl,rfl⟩ ?_
  rintro _ F L ⟨rfl,rfl⟩
  refine VSt.go za false [] 200 rfl AllP.n ?_
  refine VSt.cond rfl (fun g4=>absurd g4 (by decide)) (fun _=>?_)
  refine VSt.go za false [] 200 rfl (AllP.c (by unfold inR;(try simp only [Int.ofNat_eq_natCast]);omega) AllP.n) ?_
  refine ⟨g,?_,trivial⟩
  dsimp only
  rw [e1]
  (refine Vw.drop (by repeat (first | exact zu | refine zk rfl rfl rfl ?_ | refine zA rfl ‹_› (zt _ ‹_›) ?_)))
 ·have hge:decide (0≤Int.ofNat a)=true:=decide_eq_true (by simp only [Int.ofNat_eq_natCast];omega)
  have e1:zR (zO h l) (w+1)=bif z5H (zO h l) w a (c - a) then zR (zO h l) w ||| 1 <<< w else zR (zO h l) w:=by
   have hc:z5H (zO h l) w a (c+1 - a)=z5H (zO h l) w a (c - a):=by
    rw [show c+1 - a=c - a+1 by omega]
    exact zk6 (by rw [show a+(c - a)=c by omega];exact h8)
   rw [ebr,hbrk,h3,h4,hge]
   show (bif z5H (zO h l) w a (c+1 - a) then _ else _)=_
   rw [hc]
  refine VSt.go za false [40] 200 rfl AllP.n ?_
  refine zw 39 (nv a) rfl (z0K h3) ?_
  refine VSt.go za false [10] 200 rfl AllP.n ?_
  refine zw 40 (nv a) rfl (z0K (by simp only [Int.ofNat_eq_natCast];omega)) ?_
  refine zw 8 (nv c) rfl (z0K h4) ?_
  refine VSt.go za false [] 200 rfl AllP.n ?_
  refine VSt.loop (α :=Nat) (fun j F L=>j≤c - a∧F=[(10,nv (a+j)),(8,nv c),(5,iv (Int.ofNat (bif z5H (zO h l) w a (j) then zR (zO h l) w ||| 1 <<< w else zR (zO h l) w))),(6,nv w),(1,.p (zQ b l)),(2,.p (.fp (eHp h) 0))]∧L=[]) (fun j=>c - a - j) 0 (by (refine Vw.sub' (z7d (by repeat (first | exact z0u | refine z0m rfl ?_))))) ⟨Nat.zero_le _,rfl,rfl⟩ ?_
  rintro j F L ⟨hj,rfl,rfl⟩
  have q7:(bif z5H (zO h l) w a j then zR (zO h l) w ||| 1 <<< w else zR (zO h l) w)<9223372036854775808:=by cases z5H (zO h l) w a j <;> assumption
  refine VSt.go za false [] 200 rfl AllP.n ?_
  refine VSt.cond rfl (fun g4=>?_) (fun g4=>?_)
  ·have g4:a+j<c:=nlt g4
   have hkl:a+j<l.length:=by omega
   have hin2:=hin _ hkl
   have hB:=hbit _ hin2
   have q1:=hB.h2
   have q2:=hB.u2
   have q3:(zg h.st (zy l (a+j))).holes.toNat<9223372036854775808:=by omega
   have q4:(zg h.st (zy l (a+j))).unsure.toNat<9223372036854775808:=by omega
   have q5:(zg h.st (zy l (a+j))).holes.toNat ||| (zg h.st (zy l (a+j))).unsure.toNat<9223372036854775808:=Nat.lt_of_lt_of_le (Nat.or_lt_two_pow (n:=12) (by omega) (by omega)) (by decide)
   have hkm:a+j<(l.map Int.ofNat).length:=by omega
   have hs:=zcP (h:=h) hkl
   have hbb:=zaS ((zg h.st (zy l (a+j))).holes.toNat ||| (zg h.st (zy l (a+j))).unsure.toNat) w
   have hhs:zhX (zg (zO h l) (a+j)) w=((zg h.st (zy l (a+j))).holes.toNat ||| (zg h.st (zy l (a+j))).unsure.toNat).testBit w:=by rw [hs];rfl
   have e2:z5H (zO h l) w a (j+1)=(z5H (zO h l) w a j || !zhX (zg (zO h l) (a+j)) w):=rfl
   refine VSt.go za false [52] 200 rfl (AllP.c ‹_› (AllP.c rfl AllP.n)) ?_
   refine z02 51 (nv (zy l (a+j))) rfl (z0K z0H) ?_
   refine VSt.go za false [56] 200 rfl (AllP.c ‹_› (AllP.c rfl AllP.n)) ?_
   refine z02 55 (iv (Int.ofNat (zg h.st (zy l (a+j))).holes.toNat)) rfl (z04 (congrArg iv hB.h1)) ?_
   refine VSt.go za false [58] 200 rfl AllP.n ?_
   refine z02 57 (iv (Int.ofNat (zg h.st (zy l (a+j))).unsure.toNat)) rfl (z04 (congrArg iv hB.u1)) ?_
   refine VSt.go za false [] 200 rfl (AllP.c ‹_› (AllP.c ‹_› (AllP.c ‹_› (AllP.c ‹_› (AllP.c ‹_› (AllP.c ‹_› AllP.n)))))) ?_
   refine VSt.cond rfl (fun h11=>?_) (fun h11=>?_)
   ·have h11:(Int.ofNat (((zg h.st (zy l (a+j))).holes.toNat ||| (zg h.st (zy l (a+j))).unsure.toNat) &&& 1 <<< w)==0)=true:=h11
    have h12:(!zhX (zg (zO h l) (a+j)) w)=true:=by rw [hhs,←hbb];exact h11
    have e3:(bif z5H (zO h l) w a j then zR (zO h l) w ||| 1 <<< w else zR (zO h l) w) ||| 1 <<< w=bif z5H (zO h l) w a (j+1) then zR (zO h l) w ||| 1 <<< w else zR (zO h l) w:=by
     rw [e2,h12,Bool.or_true]
     cases z5H (zO h l) w a j with
     | true=>show zR (zO h l) w ||| 1 <<< w ||| 1 <<< w=zR (zO h l) w ||| 1 <<< w;rw [Nat.or_assoc,Nat.or_self]
     | false=>rfl
    refine VSt.go za false [] 200 rfl (AllP.c ‹_› (AllP.c ‹_› (AllP.c ‹_› (AllP.c ‹_› (AllP.c (by unfold inR;(try simp only [Int.ofNat_eq_natCast]);omega) AllP.n))))) ?_
    refine ⟨j+1,[(10,nv (a+(j+1))),(8,nv c),(5,iv (Int.ofNat (bif z5H (zO h l) w a (j+1) then zR (zO h l) w ||| 1 <<< w else zR (zO h l) w))),(6,nv w),(1,.p (zQ b l)),(2,.p (.fp (eHp h) 0))],[],?_,⟨by omega,rfl,rfl⟩,by omega⟩
    rw [←e3]
    (refine Vw.drop (by repeat (first | exact zu | refine zk rfl rfl rfl ?_ | refine zA rfl ‹_› (zt _ ‹_›) ?_)))
   ·have h11:(Int.ofNat (((zg h.st (zy l (a+j))).holes.toNat ||| (zg h.st (zy l (a+j))).unsure.toNat) &&& 1 <<< w)==0)=false:=h11
    have h12:(!zhX (zg (zO h l) (a+j)) w)=false:=by rw [hhs,←hbb];exact h11
    refine VSt.go za false [] 200 rfl (AllP.c (by unfold inR;(try simp only [Int.ofNat_eq_natCast]);omega) AllP.n) ?_
    refine ⟨j+1,[(10,nv (a+(j+1))),(8,nv c),(5,iv (Int.ofNat (bif z5H (zO h l) w a (j+1) then zR (zO h l) w ||| 1 <<< w else zR (zO h l) w))),(6,nv w),(1,.p (zQ b l)),(2,.p (.fp (eHp h) 0))],[],?_,⟨by omega,rfl,rfl⟩,by omega⟩
    rw [e2,h12,Bool.or_false]
    (refine Vw.drop (by repeat (first | exact zu | refine zk rfl rfl rfl ?_ | refine zA rfl ‹_› (zt _ ‹_›) ?_)))
  ·have g5:j=c - a:=by have:c≤a+j:=nge g4;omega
   subst g5
   refine VSt.go za false [] 200 rfl (AllP.c (by unfold inR;(try simp only [Int.ofNat_eq_natCast]);omega) AllP.n) ?_
   refine ⟨g,?_,trivial⟩
   dsimp only
   rw [e1]
   (refine Vw.drop (by repeat (first | exact zu | refine zk rfl rfl rfl ?_ | refine zA rfl ‹_› (zt _ ‹_›) ?_)))
end Go.Proofs.YtdpipdniklognaaGreat
/- Walks of the reference: all orders without worm holes. -/
set_option maxRecDepth 100000
namespace Go.Proofs.YtdpipdniklognaaGreat
variable {r:Rm}
def z2j (l:List Nat):Nat:=zy l (l.length - 1)
def zkc (h:Hp) (l:List Nat):Bool:=bif Nat.beq l.length 0 then false else zgL h (zg h.st (z2j l))
def zeN (h:Hp) (l:List Nat) (x:Nat):Bool:=bif Nat.beq l.length 0 then !zg2 h (zg h.st x) else z7e h (z2j l) x (zg h.st (z2j l)) (zg h.st x)
def z3X (h:Hp):Nat→List Nat→List Nat→List (List Nat)
 | 0,bg,_=>bif zkc h bg then [] else [bg]
 | f+1,bg,lf=>(List.range lf.length).flatMap fun i=>bif zeN h bg (zy lf i) then z3X h f (bg++[zy lf i]) (lf.eraseIdx i) else []
def z2i (h:Hp) (f:Nat) (bg lf:List Nat):Nat→List (List Nat)
 | 0=>[]
 | k+1=>z2i h f bg lf k++bif zeN h bg (zy lf k) then z3X h f (bg++[zy lf k]) (lf.eraseIdx k) else []
theorem zbH {h:Hp} {f:Nat} {bg lf:List Nat}:z2i h f bg lf lf.length=z3X h (f+1) bg lf:=by
 have:∀ k,z2i h f bg lf k=(List.range k).flatMap fun i=>bif zeN h bg (zy lf i) then z3X h f (bg++[zy lf i]) (lf.eraseIdx i) else []:=fun k=>by
  induction k with
  | zero=>rfl
  | succ k ih=>rw [z9K,←ih];rfl
 exact this _
def fac:Nat→Nat
 | 0=>1
 | f+1=>(f+1)*fac f
theorem z5z {h:Hp}:∀ f {bg lf:List Nat},lf.length=f→(z3X h f bg lf).length≤fac f
 | 0,bg,lf,_=>by
  show (bif zkc h bg then [] else [bg]).length≤1
  cases zkc h bg <;> simp
 | f+1,bg,lf,hf=>by
  have hk:∀ k,k≤lf.length→(z2i h f bg lf k).length≤k*fac f:=fun k=>by
   induction k with
   | zero=>intro _;exact Nat.zero_le _
   | succ k ih =>
    intro hk
    have h1:=ih (by omega)
    have h2:(z3X h f (bg++[zy lf k]) (lf.eraseIdx k)).length≤fac f:=z5z f (by rw [List.length_eraseIdx_of_lt (by omega)];omega)
    show (z2i h f bg lf k++_).length≤_
    rw [List.length_append,Nat.succ_mul]
    cases zeN h bg (zy lf k) with
    | true=>exact Nat.add_le_add h1 h2
    | false=>exact Nat.le_trans h1 (Nat.le_add_right _ _)
  rw [←zbH]
  have:=hk lf.length (Nat.le_refl _)
  rw [hf] at this ⊢
  exact this
theorem zht {h:Hp} {f:Nat} {bg lf:List Nat} (hf:lf.length=f+1):∀ k,k≤lf.length→(z2i h f bg lf k).length≤k*fac f:=fun k=>by
 induction k with
 | zero=>intro _;exact Nat.zero_le _
 | succ k ih =>
  intro hk
  have h1:=ih (by omega)
  have h2:(z3X h f (bg++[zy lf k]) (lf.eraseIdx k)).length≤fac f:=z5z f (by rw [List.length_eraseIdx_of_lt (by omega)];omega)
  show (z2i h f bg lf k++_).length≤_
  rw [List.length_append,Nat.succ_mul]
  cases zeN h bg (zy lf k) with
  | true=>exact Nat.add_le_add h1 h2
  | false=>exact Nat.le_trans h1 (Nat.le_add_right _ _)
theorem z5x {l:List Nat} {P:Nat→Prop}:(∀ k,k<l.length→P (zy l k)) ↔ ∀ x∈l,P x :=
 ⟨fun h x hx=>by
  obtain ⟨k,hk,e⟩:=z0I (d:=0) hx
  rw [←e];exact h k hk,fun h k hk=>h _ (z0J hk)⟩
def zqf (h:Hp) (o:List Nat):List PV:=[zQ false o,.int .i64 (Int.ofNat (zR (zO h o) 12))]
def zkb (h:Hp) (l:List (List Nat)):Nat→List PV:=fun k=>zqf h (l.getD k [])
def zkd (h:Hp) (l:List (List Nat)):PV:=.lst 159 l.isEmpty l.length (zkb h l)
theorem zpU {f:Nat} (h:f≤7):fac f≤5040:=by
 match f,h with
 | 0,_=>decide
 | 1,_=>decide
 | 2,_=>decide
 | 3,_=>decide
 | 4,_=>decide
 | 5,_=>decide
 | 6,_=>decide
 | 7,_=>decide
def z5s (lf:List Nat) (i:Nat):Nat→List Nat
 | 0=>[]
 | q+1=>bif Nat.beq q i then z5s lf i q else z5s lf i q++[zy lf q]
theorem zdF {a b:Nat} (h:a≠b):Nat.beq a b=false:=by rw [←Bool.not_eq_true];exact fun e=>h (Nat.eq_of_beq_eq_true e)
theorem ze8 {lf:List Nat} {i:Nat}:∀ {q},q≤lf.length→z5s lf i q=(lf.take q).eraseIdx i
 | 0,_=>by simp [z5s]
 | q+1,hq=>by
  have ih:=ze8 (lf:=lf) (i:=i) (q:=q) (by omega)
  show (bif Nat.beq q i then z5s lf i q else z5s lf i q++[zy lf q])=_
  have e:lf.take (q+1)=lf.take q++[zy lf q]:=z2X lf (by omega)
  have hlen:(lf.take q).length=q:=by rw [List.length_take];omega
  rw [ih,e]
  by_cases c:q=i
  ·subst c
   rw [Nat.beq_refl,List.eraseIdx_append_of_length_le (by omega),hlen,Nat.sub_self,List.eraseIdx_of_length_le (by omega)]
   simp
  ·rw [show Nat.beq q i=false from zdF c]
   by_cases c2:i<q
   ·rw [List.eraseIdx_append_of_lt_length (by omega)];rfl
   ·rw [List.eraseIdx_append_of_length_le (by omega),List.eraseIdx_of_length_le (l:=lf.take q) (by omega),hlen,List.eraseIdx_of_length_le (by simp only [List.length_singleton];omega)];rfl
theorem zbm {lf:List Nat} {i:Nat}:∀ q,(z5s lf i q).length≤q
 | 0=>Nat.le_refl _
 | q+1=>by
  have ih:=zbm (lf:=lf) (i:=i) q
  show (bif Nat.beq q i then z5s lf i q else z5s lf i q++[zy lf q]).length≤_
  cases Nat.beq q i with
  | true=>exact Nat.le_succ_of_le ih
  | false=>rw [cond_false,List.length_append];exact Nat.succ_le_succ ih
theorem ziS {h:Hp} {l:List (List Nat)} {n:Nat} (hn:n=l.length):(AV.p (.lst 159 (true&&Nat.beq n 0) n (zkb h l))) = .p (zkd h l):=by
 subst hn
 cases l <;> rfl
def z5t (lf:List Nat) (i q:Nat):List Int:=(z5s lf i q).map Int.ofNat
theorem zlO {lf:List Nat} {i q:Nat} (h:Nat.beq q i=true):z5t lf i (q+1)=z5t lf i q:=by
 show ((bif Nat.beq q i then z5s lf i q else z5s lf i q++[zy lf q]).map Int.ofNat)=_
 rw [h];rfl
theorem zlP {lf:List Nat} {i q:Nat} (h:Nat.beq q i=false):z5t lf i (q+1)=z5t lf i q++[Int.ofNat (zy lf q)]:=by
 show ((bif Nat.beq q i then z5s lf i q else z5s lf i q++[zy lf q]).map Int.ofNat)=_
 rw [h,cond_false,List.map_append];rfl
theorem zgW {lf:List Nat} {i:Nat} (q:Nat):(z5t lf i q).length≤q:=by
 unfold z5t;rw [List.length_map];exact zbm q
theorem zgX {lf:List Nat} {i:Nat}:z5t lf i lf.length=(lf.eraseIdx i).map Int.ofNat:=by
 unfold z5t;rw [ze8 (Nat.le_refl _),List.take_length]
theorem znK {bg:List Nat} {x:Nat} {y:Int} (hy:y=Int.ofNat x) {f:Nat→List PV} (hf:∀ k,f k=bif Nat.blt k (0+(bg.map Int.ofNat).length) then [PV.int .i64 ((bg.map Int.ofNat).getD k 0)] else List.take 1 (List.drop ((k - (0+(bg.map Int.ofNat).length))*1) [PV.int .i64 y])):AImp (.p (.lst 3 false (0+(bg.map Int.ofNat).length+1) fun k=>f (0+k))) (.p (zQ false (bg++[x]))):=by
 subst hy
 have e:((bg++[x]).map Int.ofNat).length=0+(bg.map Int.ofNat).length+1:=by simp
 show AImp _ (.p (.lst 3 false ((bg++[x]).map Int.ofNat).length _))
 rw [e]
 refine AImp.lst fun k hk=>?_
 rw [hf,List.map_append,Nat.zero_add,Nat.zero_add]
 have:=z6C (bg.map Int.ofNat) (Int.ofNat x) k (by omega)
 exact this
theorem zm6 {bg:List Nat} {x:Nat} {y:Int} (hb:bg.length=0) (hy:y=Int.ofNat x) {f:Nat→List PV} (hf:∀ k,f k=List.take 1 (List.drop (k*1) [PV.int .i64 y])):AImp (.p (.lst 3 false (0+1) fun k=>f (0+k))) (.p (zQ false (bg++[x]))):=by
 subst hy
 have:bg=[]:=List.length_eq_zero_iff.1 hb
 subst this
 refine AImp.lst fun k hk=>?_
 have:k=0:=by omega
 subst this
 show f 0=_
 rw [hf];rfl
theorem ze7 {lf:List Nat} {k:Nat}:(AV.p (.lst 3 (true&&Nat.beq (z5t lf k lf.length).length 0) (z5t lf k lf.length).length (fL (z5t lf k lf.length)))) = .p (zQ ((lf.eraseIdx k).map Int.ofNat).isEmpty (lf.eraseIdx k)):=by
 rw [z8W rfl,zgX];rfl
theorem zmV {h:Hp} {A R:List (List Nat)} {q:Nat}:(bif Nat.blt q A.length then zkb h A q else zkb h R (q - A.length))=zkb h (A++R) q:=by
 unfold zkb
 by_cases e:q<A.length
 ·rw [ziC e]
  simp only [cond_true,List.getD_eq_getElem?_getD]
  rw [List.getElem?_append_left e]
 ·rw [zkm e]
  simp only [cond_false,List.getD_eq_getElem?_getD]
  rw [List.getElem?_append_right (by omega)]
theorem zpX {h:Hp} {bg:List Nat} {x:Nat} (e:bg.length=0):zeN h bg x = !zg2 h (zg h.st x):=by unfold zeN;rw [e];rfl
theorem zpj {h:Hp} {bg:List Nat} {x m:Nat} (e:bg.length=m+1):zeN h bg x=z7e h (z2j bg) x (zg h.st (z2j bg)) (zg h.st x):=by unfold zeN;rw [e];rfl
set_option maxHeartbeats 8000000 in
theorem zmb {h:Hp} (hz:SzH h) (hO:OkH h):∀ f (bg lf:List Nat) (b1 b2:Bool),lf.length=f→bg.length+f≤7→(∀ k,k<bg.length→zy bg k<h.st.length)→(∀ k,k<lf.length→zy lf k<h.st.length) →
  VP (sE r) 137 [.agg ((eHp h).map .p),.p (zQ b1 bg),.p (zQ b2 lf)] (.p (zkd h (z3X h f bg lf))):=by
 have hst:=hO.st
 have hsw:=hO.sw
 have hbit:∀ i,i<h.st.length→BitS (zg h.st i):=fun i hi=>(hO.ok i hi).bit
 intro f
 induction f with
 | zero =>
  intro bg lf b1 b2 hf hn hb1 hb2
  have hlm:(lf.map Int.ofNat).length=0:=by rw [List.length_map];exact hf
  have hbm:(bg.map Int.ofNat).length=bg.length:=List.length_map _
  refine VP.of (fn:=Tryz.f137) za (zH rfl) (by kernel_rfl) rfl rfl rfl ?_
  refine VSt.go za false [] 200 rfl AllP.n ?_
  refine z05 (z00 0 (eHp h) rfl rfl) ?_
  refine VSt.cond rfl (fun _=>?_) (fun q=>?_)
  rotate_left
  ·have q:(Int.ofNat (lf.map Int.ofNat).length==0)=false:=q
   rw [hlm] at q;exact absurd q (by decide)
  cases bg with
  | nil =>
   refine VSt.go za false [] 200 rfl AllP.n ?_
   refine zl 19 rfl (fun q1=>?_) (fun q1=>?_)
   ·exact absurd q1 (by decide)
   refine VSt.go za true [7] 200 rfl (AllP.c ‹_› AllP.n) ?_
   refine VSt.go za false [35] 200 rfl AllP.n ?_
   refine zb (Vw.kp [32,33,34] [(0,0)] rfl) ?_
   refine zb (Vw.freeze 0 rfl rfl (by (repeat (first | exact AllP.n | refine AllP.c (by first | assumption | rfl | omega | exact Nat.le_refl _ | (show 0<_;omega) | (show 1<_;omega) | (show 2<_;omega) | (show 3<_;omega) | (intro _ _;rfl) | (intro q hq;match q,hq with | 0,_=>rfl) | (unfold inR;(try simp only [Int.ofNat_eq_natCast]);omega)) ?_)))) ?_
   refine zw 32 (.p (zQ false [])) rfl (AImp.lst fun k hk=>absurd hk (Nat.not_lt_zero k)) ?_
   refine zw 34 (.p (zQ false [])) rfl (AImp.lst fun k hk=>absurd hk (Nat.not_lt_zero k)) ?_
   refine VSt.pc rfl rfl rfl rfl rfl rfl rfl rfl ((z9n (b:=false) (l:=[]) hbit (by decide) (fun k hk=>absurd hk (Nat.not_lt_zero k)))) ?_
   refine VSt.go za false [] 200 rfl AllP.n ?_
   refine ⟨rfl,_,rfl,rfl,?_⟩
   exact AImp.lst fun k hk=>by
    have:k=0:=by omega
    subst this;rfl
  | cons x bg' =>
   have hm0:0<((x::bg').map Int.ofNat).length:=by rw [hbm];exact Nat.succ_pos _
   have hm1:((x::bg').map Int.ofNat).length=bg'.length+1:=hbm
   have hm2:bg'.length<((x::bg').map Int.ofNat).length:=by omega
   have hm3:((x::bg').map Int.ofNat).length≤1048576:=by
    have hn:bg'.length+1+0≤7:=hn
    omega
   have hlast:z2j (x::bg')<h.st.length:=hb1 _ (Nat.lt_succ_self _)
   have hend:zkc h (x::bg')=zgL h (zg h.st (z2j (x::bg'))):=rfl
   refine VSt.go za false [] 200 rfl AllP.n ?_
   refine zl 19 rfl (fun q1=>?_) (fun q1=>?_)
   rotate_left
   ·exact absurd (q1.symm.trans zcY) (by decide)
   refine VSt.go za false [24] 200 rfl AllP.n ?_
   refine z02 23 (nv (bg'.length+1)) rfl (z0K (by rw [hm1])) ?_
   refine VSt.go za false [25] 200 rfl (AllP.c (by unfold inR;(try simp only [Int.ofNat_eq_natCast]);omega) AllP.n) ?_
   refine z02 24 (nv bg'.length) rfl (z0K z1y) ?_
   refine VSt.go za false [27] 200 rfl (AllP.c ‹_› (AllP.c rfl AllP.n)) ?_
   refine z02 26 (nv (z2j (x::bg'))) rfl (z0K z0H) ?_
   refine z0E rfl rfl rfl rfl rfl rfl rfl rfl ((zlx (i:=z2j (x::bg')) hlast (by omega))) ?_
   refine VSt.go za false [] 200 rfl AllP.n ?_
   refine VSt.cond rfl (fun q2=>?_) (fun q2=>?_)
   ·have q2:zgL h (zg h.st (z2j (x::bg')))=true:=q2
    have e:z3X h 0 (x::bg') lf=[]:=by show (bif zkc h (x::bg') then _ else _)=_;rw [hend,q2];rfl
    rw [e]
    refine VSt.go za false [] 200 rfl AllP.n ?_
    refine ⟨rfl,_,rfl,rfl,?_⟩
    exact AImp.nil
   ·have q2:zgL h (zg h.st (z2j (x::bg')))=false:=q2
    have e:z3X h 0 (x::bg') lf=[x::bg']:=by show (bif zkc h (x::bg') then _ else _)=_;rw [hend,q2];rfl
    rw [e]
    refine VSt.go za false [35] 200 rfl (AllP.c ‹_› (AllP.c (by omega) (AllP.c (fun _ _=>rfl) (AllP.c rfl (AllP.c rfl (AllP.c (by omega) (AllP.c (by omega) AllP.n))))))) ?_
    refine zb (Vw.kp [32,33,34] [(0,1)] rfl) ?_
    refine zb (Vw.freeze 0 rfl rfl (by (repeat (first | exact AllP.n | refine AllP.c (by first | assumption | rfl | omega | exact Nat.le_refl _ | (show 0<_;omega) | (show 1<_;omega) | (show 2<_;omega) | (show 3<_;omega) | (intro _ _;rfl) | (intro q hq;match q,hq with | 0,_=>rfl) | (unfold inR;(try simp only [Int.ofNat_eq_natCast]);omega)) ?_)))) ?_
    refine zw 32 (.p (zQ false (x::bg'))) rfl (zbK (g:=fun i=>bif i.blt 0 then (fun _=>[]) (0+i) else (fun k=>[PV.int IntKind.i64 (((x::bg').map Int.ofNat).getD k 0)]) (i - 0)) (fun _=>rfl)) ?_
    refine zw 34 (.p (zQ false (x::bg'))) rfl (zbK (g:=fun i=>bif i.blt 0 then (fun _=>[]) (0+i) else (fun k=>[PV.int IntKind.i64 (((x::bg').map Int.ofNat).getD k 0)]) (i - 0)) (fun _=>rfl)) ?_
    refine VSt.pc rfl rfl rfl rfl rfl rfl rfl rfl ((z9n (b:=false) (l:=x::bg') hbit (by show bg'.length+1≤_;omega) hb1)) ?_
    refine VSt.go za false [] 200 rfl AllP.n ?_
    refine ⟨rfl,_,rfl,rfl,?_⟩
    exact AImp.lst fun k hk=>by
     have:k=0:=by omega
     subst this;rfl
 | succ f ih =>
  intro bg lf b1 b2 hf hn hb1 hb2
  have hlm:(lf.map Int.ofNat).length=lf.length:=List.length_map _
  have hbm:(bg.map Int.ofNat).length=bg.length:=List.length_map _
  refine VP.of (fn:=Tryz.f137) za (zH rfl) (by kernel_rfl) rfl rfl rfl ?_
  refine VSt.go za false [] 200 rfl AllP.n ?_
  refine z05 (z00 0 (eHp h) rfl rfl) ?_
  refine VSt.cond rfl (fun q=>?_) (fun _=>?_)
  ·have q:(Int.ofNat (lf.map Int.ofNat).length==0)=true:=q
   have:=eq_of_beq q
   simp only [Int.ofNat_eq_natCast] at this
   omega
  refine VSt.go za false [] 200 rfl AllP.n ?_
  refine z05 (z3K 0 2 (zkb h []) 159 rfl) ?_
  refine z09 (ti:=9) lf.length [1,2,3] (fun k=>[(8,.acc true 0 2 (z2i h f bg lf k).length)]) (fun k=>[(0,.acc (z2i h f bg lf k).length 2 (zkb h (z2i h f bg lf k)) 159)]) (fun _=>True) rfl rfl (z0L rfl z1k z0l) (LImp.refl _) trivial (fun k hk _=>?_)
  refine VSt.go za false [] 200 rfl AllP.n ?_
  refine VSt.cond rfl (fun g=>?_) (fun g=>?_)
  rotate_left
  ·have g:k=lf.length:=by have:=nge g;omega
   subst g
   rw [←zbH]
   refine VSt.go za false [6] 200 rfl AllP.n ?_
   refine zb (Vw.kp [106] [(0,0)] rfl) ?_
   refine zb (z0G 0 rfl rfl (by (repeat (first | exact AllP.n | refine AllP.c (by first | assumption | rfl | omega | exact Nat.le_refl _ | (show 0<_;omega) | (show 1<_;omega) | (show 2<_;omega) | (show 3<_;omega) | (intro _ _;rfl) | (intro q hq;match q,hq with | 0,_=>rfl) | (unfold inR;(try simp only [Int.ofNat_eq_natCast]);omega)) ?_)))) ?_
   refine VSt.go za false [] 200 rfl AllP.n ?_
   exact EndsP.mk rfl rfl rfl (ziS rfl)
  have g:k<lf.length:=by have:=nlt g;omega
  have hkm:k<(lf.map Int.ofNat).length:=by omega
  have hx:zy lf k<h.st.length:=hb2 k g
  have hgk:z2i h f bg lf (k+1)=z2i h f bg lf k++bif zeN h bg (zy lf k) then z3X h f (bg++[zy lf k]) (lf.eraseIdx k) else []:=rfl
  have hskip:zeN h bg (zy lf k)=false→z2i h f bg lf (k+1)=z2i h f bg lf k:=fun e=>by rw [hgk,e];exact List.append_nil _
  have hrc:bg.length=0∨∃ m,bg.length=m+1:=by cases bg with
   | nil=>exact .inl rfl
   | cons x t=>exact .inr ⟨t.length,rfl⟩
  refine ways (O:=zeN h bg (zy lf k)=true) (T:=?T) hrc ?tail ?ha ?hb
  case ha =>
   intro hrow tail
   refine VSt.go za false [47] 200 rfl AllP.n ?_
   refine z02 46 (bv true) rfl (z04 (by rw [hbm,hrow];rfl)) ?_
   refine VSt.go za false [] 200 rfl AllP.n ?_
   refine zl 47 rfl (fun q1=>?_) (fun q1=>?_)
   rotate_left
   ·exact absurd q1 (by decide)
   refine VSt.go za false [53] 200 rfl (AllP.c ‹_› (AllP.c rfl AllP.n)) ?_
   refine z02 52 (nv (zy lf k)) rfl (z0K z0H) ?_
   refine z0E rfl rfl rfl rfl rfl rfl rfl rfl ((zcL (h:=h) hx (by omega))) ?_
   refine VSt.go za false [] 200 rfl AllP.n ?_
   refine zl 55 rfl (fun q2=>?_) (fun q2=>?_)
   ·have q2:zg2 h (zg h.st (zy lf k))=true:=q2
    refine VSt.go za false [] 200 rfl (AllP.c (by unfold inR;(try simp only [Int.ofNat_eq_natCast]);omega) AllP.n) ?_
    refine ⟨g,?_,trivial⟩
    dsimp only
    rw [hskip (by rw [zpX hrow,q2];rfl)]
    refine z1a (ps:=[(0,0)]) ⟨rfl,rfl,(by repeat (first | exact zu | refine zk rfl rfl rfl ?_)),_,rfl,(⟨rfl,BImp.refl _,trivial⟩)⟩
   have q2:zg2 h (zg h.st (zy lf k))=false:=q2
   refine VSt.go za false [] 200 rfl AllP.n ?_
   refine z02 59 (bv false) rfl (z04 (by rw [hbm,hrow];rfl)) ?_
   refine zl 59 rfl (fun q3=>?_) (fun q3=>?_)
   ·exact absurd q3 (by decide)
   refine VSt.go za false [10] 200 rfl AllP.n ?_
   refine zb (Vw.kp [8,9,1,2,3] [(0,0)] rfl) ?_
   exact tail (by rw [zpX hrow,q2];rfl)
  case hb =>
   intro hx2 tail
   refine hx2.elim fun m hrow=>?_
   have hm1:(bg.map Int.ofNat).length=m+1:=by omega
   have hm2:m<(bg.map Int.ofNat).length:=by omega
   have hm3:m<10:=by omega
   have hls:zy bg m=z2j bg:=by unfold z2j;rw [hrow];rfl
   have hlast:z2j bg<h.st.length:=by rw [←hls];exact hb1 m (by omega)
   refine VSt.go za false [47] 200 rfl AllP.n ?_
   refine z02 46 (bv false) rfl (z04 (by rw [hm1];rfl)) ?_
   refine VSt.go za false [] 200 rfl AllP.n ?_
   refine zl 47 rfl (fun q1=>?_) (fun q1=>?_)
   ·exact absurd q1 (by decide)
   refine VSt.go za false [] 200 rfl AllP.n ?_
   refine z02 59 (bv true) rfl (z04 (by rw [hm1,zcY])) ?_
   refine zl 59 rfl (fun q3=>?_) (fun q3=>?_)
   rotate_left
   ·exact absurd q3 (by decide)
   refine VSt.go za false [64] 200 rfl AllP.n ?_
   refine z02 63 (nv (m+1)) rfl (z0K (by rw [hm1])) ?_
   refine VSt.go za false [65] 200 rfl (AllP.c (by unfold inR;(try simp only [Int.ofNat_eq_natCast]);omega) AllP.n) ?_
   refine z02 64 (nv m) rfl (z0K z1y) ?_
   refine VSt.go za false [71] 200 rfl (AllP.c ‹_› (AllP.c rfl (AllP.c ‹_› (AllP.c rfl AllP.n)))) ?_
   refine z02 66 (nv (z2j bg)) rfl (z0K (by rw [z0H,hls])) ?_
   refine z02 70 (nv (zy lf k)) rfl (z0K z0H) ?_
   refine z0E rfl rfl rfl rfl rfl rfl rfl rfl ((zlM (h:=h) (i:=z2j bg) (k:=zy lf k) hz hlast hx)) ?_
   refine VSt.go za false [] 200 rfl AllP.n ?_
   refine VSt.cond rfl (fun q4=>?_) (fun q4=>?_)
   ·have q4:(!z7e h (z2j bg) (zy lf k) (zg h.st (z2j bg)) (zg h.st (zy lf k)))=true:=q4
    refine VSt.go za false [] 200 rfl (AllP.c (by unfold inR;(try simp only [Int.ofNat_eq_natCast]);omega) AllP.n) ?_
    refine ⟨g,?_,trivial⟩
    dsimp only
    rw [hskip (by rw [zpj hrow];simpa using q4)]
    refine z1a (ps:=[(0,0)]) ⟨rfl,rfl,(by repeat (first | exact zu | refine zk rfl rfl rfl ?_)),_,rfl,(⟨rfl,BImp.refl _,trivial⟩)⟩
   have q4:(!z7e h (z2j bg) (zy lf k) (zg h.st (z2j bg)) (zg h.st (zy lf k)))=false:=q4
   refine VSt.go za false [10] 200 rfl AllP.n ?_
   refine zb (Vw.kp [8,9,1,2,3] [(0,0)] rfl) ?_
   exact tail (by rw [zpj hrow];simpa using q4)
  intro hcan
  refine VSt.go za false [] 200 rfl AllP.n ?_
  refine z05 (z3K 1 1 (fL []) 3 rfl) ?_
  refine z09 (ti:=11) lf.length [1,2,3,8,9] (fun q=>[(10,.acc true 1 1 (z5t lf k q).length)]) (fun q=>[(1,.acc (z5t lf k q).length 1 (fL (z5t lf k q)) 3),(0,.acc (z2i h f bg lf k).length 2 (zkb h (z2i h f bg lf k)) 159)]) (fun _=>True) rfl rfl (z0L rfl z1k z0l) (LImp.refl _) trivial (fun q hq _=>?_)
  refine VSt.go za false [] 200 rfl AllP.n ?_
  refine VSt.cond rfl (fun g2=>?_) (fun g2=>?_)
  ·have g2:q<lf.length:=by have:=nlt g2;omega
   have hqm:q<(lf.map Int.ofNat).length:=by omega
   have hql:=zgW (lf:=lf) (i:=k) q
   refine VSt.go za false [] 200 rfl AllP.n ?_
   refine VSt.cond rfl (fun q5=>?_) (fun q5=>?_)
   ·have q5:(!(Int.ofNat q==Int.ofNat k))=true:=q5
    have q6:Nat.beq q k=false:=zdF fun e=>by rw [e,beq_self_eq_true] at q5;cases q5
    have e:=zlP (lf:=lf) q6
    have hN:=congrArg List.length e
    rw [List.length_append,List.length_singleton] at hN
    refine VSt.go za false [89] 200 rfl (AllP.c ‹_› (AllP.c rfl AllP.n)) ?_
    refine zw 88 (nv (zy lf q)) rfl (z0K z0H) ?_
    refine VSt.go za false [] 200 rfl (AllP.c (by omega) (AllP.c (by omega) (AllP.c (fun q hq=>match q,hq with | 0,_=>rfl) (AllP.c rfl (AllP.c rfl (AllP.c rfl (AllP.c (by unfold inR;(try simp only [Int.ofNat_eq_natCast]);omega) AllP.n))))))) ?_
    refine ⟨g2,?_,trivial⟩
    exact z1a (ps:=[(1,2),(0,0)]) ⟨rfl,rfl,(by repeat (first | exact zu | refine zk rfl rfl rfl ?_ | refine z0X rfl rfl z3q ?_ | refine z0X rfl rfl (AImp.acc hN.symm (fun _=>rfl)) ?_)),_,rfl,⟨rfl,BImp.acc hN.symm (fun x hx=>by rw [e];exact z6C _ _ x hx),rfl,BImp.refl _,trivial⟩⟩
   ·have q5:(!(Int.ofNat q==Int.ofNat k))=false:=q5
    have q6:Nat.beq q k=true:=by
     have:(Int.ofNat q==Int.ofNat k)=true:=by simpa using q5
     have:=eq_of_beq this
     simp only [Int.ofNat_eq_natCast] at this
     rw [show q=k by omega];exact Nat.beq_refl k
    have e:=zlO (lf:=lf) q6
    refine VSt.go za false [] 200 rfl (AllP.c (by unfold inR;(try simp only [Int.ofNat_eq_natCast]);omega) AllP.n) ?_
    refine ⟨g2,?_,trivial⟩
    dsimp only
    rw [e]
    refine z1a (ps:=[(1,1),(0,0)]) ⟨rfl,rfl,(by repeat (first | exact zu | refine zk rfl rfl rfl ?_)),_,rfl,(⟨rfl,BImp.refl _,rfl,BImp.refl _,trivial⟩)⟩
  have g3:q=lf.length:=by have:=nge g2;omega
  subst g3
  have hT:True:=trivial
  refine ways (O:=True) (T:=?T2) hrc ?tail2 ?ha2 ?hb2
  case ha2 =>
   intro hrow tail
   have hm1:(bg.map Int.ofNat).length=0:=by omega
   refine VSt.go za true [94] 200 rfl (AllP.c ‹_› AllP.n) ?_
   refine VSt.go za false [104] 200 rfl (AllP.c ‹_› (AllP.c rfl (AllP.c (by omega) (AllP.c (by omega) (AllP.c (fun q hq=>match q,hq with | 0,_=>rfl) (AllP.c rfl (AllP.c rfl (AllP.c (by omega) (AllP.c (by omega) AllP.n))))))))) ?_
   refine zb (Vw.kp [1,2,3,8,9,100,101,102,103] [(0,0),(1,1),(2,3)] rfl) ?_
   refine zb (Vw.freeze 2 rfl rfl (by (repeat (first | exact AllP.n | refine AllP.c (by first | assumption | rfl | omega | exact Nat.le_refl _ | (show 0<_;omega) | (show 1<_;omega) | (show 2<_;omega) | (show 3<_;omega) | (intro _ _;rfl) | (intro q hq;match q,hq with | 0,_=>rfl) | (unfold inR;(try simp only [Int.ofNat_eq_natCast]);omega)) ?_)))) ?_
   refine zb (z0G 1 rfl rfl (by (repeat (first | exact AllP.n | refine AllP.c (by first | assumption | rfl | omega | exact Nat.le_refl _ | (show 0<_;omega) | (show 1<_;omega) | (show 2<_;omega) | (show 3<_;omega) | (intro _ _;rfl) | (intro q hq;match q,hq with | 0,_=>rfl) | (unfold inR;(try simp only [Int.ofNat_eq_natCast]);omega)) ?_)))) ?_
   refine zw 102 (.p (zQ false (bg++[zy lf k]))) rfl (zm6 (f:=fun i=>bif i.blt 0 then (fun _=>[]) (0+i) else (fun k_1=>List.take 1 (List.drop (k_1*1) [PV.int IntKind.i64 ((lf.map Int.ofNat).getD k 0)])) (i - 0)) hrow z0H fun _=>rfl) ?_
   refine zw 101 (.agg ((eHp h).map .p)) rfl (AImp.refl _) ?_
   refine zw 103 (.p (zQ ((lf.eraseIdx k).map Int.ofNat).isEmpty (lf.eraseIdx k))) rfl (z04 ze7) ?_
   refine zb (Vw.sub' (F0:=[(1,.p (zQ b1 bg)),(2,.p (zQ b2 lf)),(3,.p (.fp (eHp h) 0)),(9,nv k),(100,.acc true 0 2 (z2i h f bg lf k).length),(101,.agg ((eHp h).map .p)),(102,.p (zQ false (bg++[zy lf k]))),(103,.p (zQ ((lf.eraseIdx k).map Int.ofNat).isEmpty (lf.eraseIdx k)))]) (z7d (by repeat (first | exact z0u | refine z0m rfl ?_)))) ?_
   exact tail hT
  case hb2 =>
   intro hx2 tail
   refine hx2.elim fun m hrow=>?_
   have hm1:(bg.map Int.ofNat).length=m+1:=by omega
   have hm2:0<(bg.map Int.ofNat).length:=by omega
   have hm3:(bg.map Int.ofNat).length≤1048576:=by omega
   have hm4:0+(bg.map Int.ofNat).length+1≤1048576:=by omega
   refine VSt.go za false [104] 200 rfl (AllP.c ‹_› (AllP.c (by omega) (AllP.c (fun _ _=>rfl) (AllP.c rfl (AllP.c rfl (AllP.c (by omega) (AllP.c (by omega) (AllP.c ‹_› (AllP.c rfl (AllP.c (by omega) (AllP.c ‹_› (AllP.c (fun q hq=>match q,hq with | 0,_=>rfl) (AllP.c rfl (AllP.c rfl (AllP.c (by omega) (AllP.c (by omega) AllP.n)))))))))))))))) ?_
   refine zb (Vw.kp [1,2,3,8,9,100,101,102,103] [(0,0),(1,1),(2,4)] rfl) ?_
   refine zb (Vw.freeze 2 rfl rfl (by (repeat (first | exact AllP.n | refine AllP.c (by first | assumption | rfl | omega | exact Nat.le_refl _ | (show 0<_;omega) | (show 1<_;omega) | (show 2<_;omega) | (show 3<_;omega) | (intro _ _;rfl) | (intro q hq;match q,hq with | 0,_=>rfl) | (unfold inR;(try simp only [Int.ofNat_eq_natCast]);omega)) ?_)))) ?_
   refine zb (z0G 1 rfl rfl (by (repeat (first | exact AllP.n | refine AllP.c (by first | assumption | rfl | omega | exact Nat.le_refl _ | (show 0<_;omega) | (show 1<_;omega) | (show 2<_;omega) | (show 3<_;omega) | (intro _ _;rfl) | (intro q hq;match q,hq with | 0,_=>rfl) | (unfold inR;(try simp only [Int.ofNat_eq_natCast]);omega)) ?_)))) ?_
   refine zw 102 (.p (zQ false (bg++[zy lf k]))) rfl (znK (f:=fun i=>bif i.blt (0+(bg.map Int.ofNat).length) then (fun i=>bif i.blt 0 then (fun _=>[]) (0+i) else (fun k=>[PV.int IntKind.i64 ((bg.map Int.ofNat).getD k 0)]) (i - 0)) (0+i) else (fun k_1=>List.take 1 (List.drop (k_1*1) [PV.int IntKind.i64 ((lf.map Int.ofNat).getD k 0)])) (i - (0+(bg.map Int.ofNat).length))) z0H fun i=>by rw [Nat.zero_add i];rfl) ?_
   refine zw 101 (.agg ((eHp h).map .p)) rfl (AImp.refl _) ?_
   refine zw 103 (.p (zQ ((lf.eraseIdx k).map Int.ofNat).isEmpty (lf.eraseIdx k))) rfl (z04 ze7) ?_
   refine zb (Vw.sub' (F0:=[(1,.p (zQ b1 bg)),(2,.p (zQ b2 lf)),(3,.p (.fp (eHp h) 0)),(9,nv k),(100,.acc true 0 2 (z2i h f bg lf k).length),(101,.agg ((eHp h).map .p)),(102,.p (zQ false (bg++[zy lf k]))),(103,.p (zQ ((lf.eraseIdx k).map Int.ofNat).isEmpty (lf.eraseIdx k)))]) (z7d (by repeat (first | exact z0u | refine z0m rfl ?_)))) ?_
   exact tail hT
  case tail2 =>
   intro _
   have hx1:∀ q,q<(bg++[zy lf k]).length→zy (bg++[zy lf k]) q<h.st.length:=z5x (P:=fun x=>x<h.st.length).2 fun x hx=>by
    rcases List.mem_append.1 hx with hx | hx
    ·exact z5x (P:=fun x=>x<h.st.length).1 hb1 x hx
    ·rw [List.mem_singleton.1 hx];assumption
   have hx2:∀ q,q<(lf.eraseIdx k).length→zy (lf.eraseIdx k) q<h.st.length:=z5x (P:=fun x=>x<h.st.length).2 fun x hx=>z5x (P:=fun x=>x<h.st.length).1 hb2 x (List.mem_of_mem_eraseIdx hx)
   have hle:(lf.eraseIdx k).length=f:=by rw [List.length_eraseIdx_of_lt g];omega
   have hR:=z5z (h:=h) (bg:=bg++[zy lf k]) f hle
   have hK:=zht (h:=h) (bg:=bg) hf k (by omega)
   have hfc:=zpU (f:=f) (by omega)
   have hK2:(z2i h f bg lf k).length≤7*5040:=Nat.le_trans hK (Nat.mul_le_mul (by omega) hfc)
   have hih:=ih (bg++[zy lf k]) (lf.eraseIdx k) false ((lf.eraseIdx k).map Int.ofNat).isEmpty hle (by rw [List.length_append];show bg.length+1+f≤7;omega) hx1 hx2
   have e:z2i h f bg lf (k+1)=z2i h f bg lf k++z3X h f (bg++[zy lf k]) (lf.eraseIdx k):=by rw [hgk,hcan];rfl
   generalize z3X h f (bg++[zy lf k]) (lf.eraseIdx k)=R at hR hih e
   refine VSt.pc rfl rfl rfl rfl rfl rfl rfl rfl (hih) ?_
   by_cases hR0:R.length=0
   ·have hRn:R=[]:=List.length_eq_zero_iff.1 hR0
    have e2:z2i h f bg lf (k+1)=z2i h f bg lf k:=by rw [e,hRn,List.append_nil]
    refine VSt.go za true [8] 200 rfl (AllP.c ‹_› AllP.n) ?_
    refine VSt.go za false [] 200 rfl (AllP.c (by unfold inR;(try simp only [Int.ofNat_eq_natCast]);omega) AllP.n) ?_
    refine ⟨g,?_,trivial⟩
    dsimp only
    rw [e2]
    refine z1a (ps:=[(0,0)]) ⟨rfl,rfl,(by repeat (first | exact zu | refine zk rfl rfl rfl ?_)),_,rfl,(⟨rfl,BImp.refl _,trivial⟩)⟩
   ·have hR1:0<R.length:=by omega
    have hN:=congrArg List.length e
    rw [List.length_append] at hN
    have hsum:(z2i h f bg lf k).length+R.length≤1048576:=by omega
    refine VSt.go za false [] 200 rfl (AllP.c ‹_› (AllP.c ‹_› (AllP.c (fun _ _=>rfl) (AllP.c rfl (AllP.c rfl (AllP.c rfl (AllP.c (by unfold inR;(try simp only [Int.ofNat_eq_natCast]);omega) AllP.n))))))) ?_
    refine ⟨g,?_,trivial⟩
    exact z1a (ps:=[(0,1)]) ⟨rfl,rfl,(by repeat (first | exact zu | refine zk rfl rfl rfl ?_ | refine z0X rfl rfl z3q ?_ | refine z0X rfl rfl (AImp.acc hN.symm (fun _=>rfl)) ?_)),_,rfl,⟨rfl,BImp.acc hN.symm (fun q hq=>by rw [e];exact zmV),trivial⟩⟩
end Go.Proofs.YtdpipdniklognaaGreat
/- Walks of the reference: runs, orders. -/
set_option maxRecDepth 100000
namespace Go.Proofs.YtdpipdniklognaaGreat
variable {r:Rm}
def z95 (l:List Sht) (p:Int):Nat→List Nat
 | 0=>[]
 | k+1=>bif (zg l k).paper==p then z95 l p k++[k] else z95 l p k
def zaV (l:List Sht) (p:Int):List Nat:=z95 l p l.length
def zhz (l:List Sht) (p:Int) (k:Nat):List Int:=(z95 l p k).map Int.ofNat
theorem znT {l:List Sht} {p:Int} {k:Nat} (h:((zg l k).paper==p)=true):zhz l p (k+1)=zhz l p k++[Int.ofNat k]:=by
 show ((bif (zg l k).paper==p then z95 l p k++[k] else z95 l p k).map Int.ofNat)=_
 rw [h,cond_true,List.map_append];rfl
theorem znU {l:List Sht} {p:Int} {k:Nat} (h:((zg l k).paper==p)=false):zhz l p (k+1)=zhz l p k:=by
 show ((bif (zg l k).paper==p then z95 l p k++[k] else z95 l p k).map Int.ofNat)=_
 rw [h];rfl
theorem zer {l:List Sht} {p:Int}:∀ k,(z95 l p k).length≤k
 | 0=>Nat.le_refl _
 | k+1=>by
  have ih:=zer (l:=l) (p:=p) k
  show (bif (zg l k).paper==p then z95 l p k++[k] else z95 l p k).length≤_
  cases (zg l k).paper==p with
  | true=>rw [cond_true,List.length_append];exact Nat.succ_le_succ ih
  | false=>exact Nat.le_succ_of_le ih
theorem zas {l:List Sht} {p:Int}:∀ k,∀ x∈z95 l p k,x<k
 | 0,x,h=>by cases h
 | k+1,x,h=>by
  have h:x∈(bif (zg l k).paper==p then z95 l p k++[k] else z95 l p k):=h
  cases hb:(zg l k).paper==p with
  | true =>
   rw [hb,cond_true] at h
   rcases List.mem_append.1 h with h | h
   ·exact Nat.lt_succ_of_lt (zas k x h)
   ·rw [List.mem_singleton.1 h];exact Nat.lt_succ_self _
  | false =>
   rw [hb] at h
   exact Nat.lt_succ_of_lt (zas k x h)
theorem zes {l:List Sht} {p:Int}:∀ k,k≤l.length→(z95 l p k).map (fun i=>zg l i)=(l.take k).filter fun s=>s.paper==p
 | 0,_=>by simp [z95]
 | k+1,hk=>by
  have ih:=zes (l:=l) (p:=p) k (by omega)
  rw [z3j l _ (by omega),←ih]
  show ((bif (zg l k).paper==p then z95 l p k++[k] else z95 l p k).map _)=(bif (zg l k).paper==p then _ else _)
  cases (zg l k).paper==p with
  | true=>rw [cond_true,cond_true,List.map_append];rfl
  | false=>rfl
theorem zar {l:List Sht} {p:Int}:(zaV l p).map (fun i=>zg l i)=zW l p:=by
 unfold zaV
 rw [zes _ (Nat.le_refl _),List.take_length];rfl
def z1Y (h:Hp) (p:Int):List (List Nat):=z3X h (zaV h.st p).length [] (zaV h.st p)
set_option maxHeartbeats 8000000 in
theorem zgU {h:Hp} {p:Int} (hz:SzH h) (hO:OkH h):VP (sE r) 90 [.agg ((eHp h).map .p),iv p] (.p (zkd h (z1Y h p))):=by
 have hst:=hO.st
 have hl7:(zaV h.st p).length≤7:=by
  have:=zaL hO p
  rw [←zar,List.length_map] at this;exact this
 refine VP.of (fn:=Tryz.f90) za (zH rfl) (by kernel_rfl) rfl rfl rfl ?_
 refine VSt.go za false [] 200 rfl AllP.n ?_
 refine z05 (z00 0 (eHp h) rfl rfl) ?_
 refine z05 (z3K 0 1 (fL []) 3 rfl) ?_
 refine z09 (ti:=6) h.st.length [1,2] (fun k=>[(5,.acc true 0 1 (zhz h.st p k).length)]) (fun k=>[(0,.acc (zhz h.st p k).length 1 (fL (zhz h.st p k)) 3)]) (fun _=>True) rfl rfl (z0L rfl z1k z0l) (LImp.refl _) trivial (fun k hk _=>?_)
 have hlen:(zhz h.st p k).length≤k:=by unfold zhz;rw [List.length_map];exact zer k
 refine VSt.go za false [] 200 rfl AllP.n ?_
 refine VSt.cond rfl (fun g=>?_) (fun g=>?_)
 ·have g:=nlt g
  refine VSt.go za false [] 200 rfl (AllP.c ‹_› (AllP.c rfl AllP.n)) ?_
  refine VSt.cond rfl (fun h1=>?_) (fun h1=>?_)
  ·have h1:((zg h.st k).paper==p)=true:=h1
   have e:=znT h1
   have hN:=congrArg List.length e
   rw [List.length_append,List.length_singleton] at hN
   refine VSt.go za false [] 200 rfl (AllP.c (by omega) (AllP.c (by omega) (AllP.c (fun q hq=>match q,hq with | 0,_=>rfl) (AllP.c rfl (AllP.c rfl (AllP.c rfl (AllP.c (by unfold inR;(try simp only [Int.ofNat_eq_natCast]);omega) AllP.n))))))) ?_
   refine ⟨g,?_,trivial⟩
   exact z1a (ps:=[(0,1)]) ⟨rfl,rfl,(by repeat (first | exact zu | refine zk rfl rfl rfl ?_ | refine z0X rfl rfl z3q ?_ | refine z0X rfl rfl (AImp.acc hN.symm (fun _=>rfl)) ?_)),_,rfl,⟨rfl,BImp.acc hN.symm (fun q hq=>by rw [e];exact z6C _ _ q hq),trivial⟩⟩
  ·have h1:((zg h.st k).paper==p)=false:=h1
   have e:=znU h1
   refine VSt.go za false [] 200 rfl (AllP.c (by unfold inR;(try simp only [Int.ofNat_eq_natCast]);omega) AllP.n) ?_
   refine ⟨g,?_,trivial⟩
   dsimp only
   rw [e]
   refine z1a (ps:=[(0,0)]) ⟨rfl,rfl,(by repeat (first | exact zu | refine zk rfl rfl rfl ?_)),_,rfl,(⟨rfl,BImp.refl _,trivial⟩)⟩
 ·have g:k=h.st.length:=by have:=nge g;omega
  subst g
  refine VSt.go za false [28] 200 rfl AllP.n ?_
  refine zb (Vw.kp [26,27] [(0,0)] rfl) ?_
  refine zb (z0G 0 rfl rfl (by (repeat (first | exact AllP.n | refine AllP.c (by first | assumption | rfl | omega | exact Nat.le_refl _ | (show 0<_;omega) | (show 1<_;omega) | (show 2<_;omega) | (show 3<_;omega) | (intro _ _;rfl) | (intro q hq;match q,hq with | 0,_=>rfl) | (unfold inR;(try simp only [Int.ofNat_eq_natCast]);omega)) ?_)))) ?_
  refine zw 26 (.agg ((eHp h).map .p)) rfl (AImp.refl _) ?_
  refine zw 27 (.p (zQ (zhz h.st p h.st.length).isEmpty (zaV h.st p))) rfl (z04 (z8W rfl)) ?_
  refine VSt.pc rfl rfl rfl rfl rfl rfl rfl rfl ((VP.imp (zmb hz hO _ [] (zaV h.st p) true (zhz h.st p h.st.length).isEmpty rfl (by show 0+_≤7;omega) (fun k hk=>absurd hk (Nat.not_lt_zero k)) (z5x (P:=fun x=>x<h.st.length).2 (zas _))) ⟨AImp.refl _,AImp.nil,AImp.refl _,trivial⟩)) ?_
  refine VSt.go za false [] 200 rfl AllP.n ?_
  exact EndsP.mk rfl rfl rfl rfl
end Go.Proofs.YtdpipdniklognaaGreat
/- Walks of the reference: orders, some, Order, Count, Nth. -/
set_option maxRecDepth 100000
namespace Go.Proofs.YtdpipdniklognaaGreat
variable {r:Rm}
def zpN (R:List (List Nat)) (k:Nat):List Nat:=R.getD k []
theorem z5n {h:Hp} (hO:OkH h) (p:Int):(z1Y h p).length≤5040:=by
 have hl7:(zaV h.st p).length≤7:=by
  have:=zaL hO p
  rw [←zar,List.length_map] at this;exact this
 exact Nat.le_trans (z5z _ rfl) (zpU hl7)
end Go.Proofs.YtdpipdniklognaaGreat
/- Plain: the reference's orders are the program's. -/
set_option maxRecDepth 100000
namespace Go.Proofs.YtdpipdniklognaaGreat
theorem zls {h:Hp} (n:OkH h) (s:Sht):zgL h s = !(toS h s.id==0):=by
 rcases zb7 n s.id with ⟨j,hj,h1,h2⟩ | ⟨h1,h2⟩
 ·have h3:zgL h s=true:=zaR (p:=fun x:Sew=>x.fro==s.id) hj (by show ((zF h.sw j).fro==s.id)=true;rw [h1,beq_self_eq_true])
  have h4:(toS h s.id==0)=false:=by
   rw [←Bool.not_eq_true,beq_iff_eq,h2]
   have:=(n.pos hj).2;omega
  rw [h3,h4];rfl
 ·have h3:zgL h s=false:=z7M (p:=fun x:Sew=>x.fro==s.id) fun k hk=>by
   rw [←Bool.not_eq_true,beq_iff_eq];exact h1 k hk
  rw [h3,h2];rfl
theorem zmy {h:Hp} (n:OkH h) (s:Sht):zg2 h s = !(frS h s.id==0):=by
 rcases zc1 n s.id with ⟨j,hj,h1,h2⟩ | ⟨h1,h2⟩
 ·have h3:zg2 h s=true:=zaR (p:=fun x:Sew=>x.too==s.id) hj (by show ((zF h.sw j).too==s.id)=true;rw [h1,beq_self_eq_true])
  have h4:(frS h s.id==0)=false:=by
   rw [←Bool.not_eq_true,beq_iff_eq,h2]
   have:=(n.pos hj).1;omega
  rw [h3,h4];rfl
 ·have h3:zg2 h s=false:=z7M (p:=fun x:Sew=>x.too==s.id) fun k hk=>by
   rw [←Bool.not_eq_true,beq_iff_eq];exact h1 k hk
  rw [h3,h2];rfl
theorem znP {h:Hp} (n:OkH h) {i k:Nat} {x y:Sht} (hik:i≠k) (hp:x.paper=y.paper):z7e h i k x y=zde h x y:=by
 unfold z7e zde
 rw [←znm n,show (i==k)=false by rw [←Bool.not_eq_true,beq_iff_eq];exact hik,hp,beq_self_eq_true]
 generalize ((toS h x.id==0||toS h x.id==y.id)&&(frS h y.id==0||frS h y.id==x.id))=T
 cases (x.catch_==y.first) <;> cases (x.catch_==0) <;> cases (y.first==0) <;> cases T <;> rfl
def zeM (h:Hp) (l:List Sht) (row:List Nat):Prop:=∀ k,k+1<row.length→zde h (zg (zX l row) k) (zg (zX l row) (k+1))=true
theorem zfM {h:Hp} {l:List Sht} {row:List Nat} {i:Nat} (hc:zeM h l row) (hok:okR h l row i=true):zeM h l (i::row):=fun k hk=>by
 have hk:k+1<row.length+1:=hk
 cases row with
 | nil=>exact absurd hk (by show ¬ k+1<0+1;omega)
 | cons j t =>
  have hcf:(j::t).contains i=false:=by
   rw [←Bool.not_eq_true];intro g;rw [zd8 g] at hok;cases hok
  rw [z7q hcf] at hok
  have ht:(j::t).length=t.length+1:=rfl
  by_cases c:k+1<(j::t).length
  ·rw [z5p (by omega),z5p c];exact hc k c
  ·have e:k=t.length:=by omega
   subst e
   rw [z5p (show t.length<(j::t).length by omega),z88,show t.length+1=(j::t).length from rfl,z88];exact hok
def zpV (h:Hp) (l:List Sht):List Nat→Bool
 | []=>true
 | i::_=>toS h (zg l i).id==0
theorem zgA {h:Hp} {l:List Sht} {row:List Nat} (hc:zeM h l row):zdZ h (zX l row)=zpV h l row:=by
 have hlen:=z5q (l:=l) (row:=row)
 cases row with
 | nil=>rfl
 | cons i t =>
  have ht:(i::t).length=t.length+1:=rfl
  have hlast:zg (zX l (i::t)) t.length=zg l i:=z88
  show _=(toS h (zg l i).id==0)
  cases h0:toS h (zg l i).id==0 with
  | true =>
   refine allB_iff.2 fun k hk=>?_
   by_cases c:k=t.length
   ·unfold okT;rw [c,hlast,h0];rfl
   ·have h1:=hc k (by omega)
    unfold okT
    unfold zde at h1
    rw [Bool.and_eq_true,Bool.and_eq_true] at h1
    have h3:=h1.2.1
    rw [Bool.or_eq_true] at h3 ⊢
    rcases h3 with h2 | h2
    ·exact .inl h2
    ·exact .inr (by rw [decide_eq_true (show k+1<(zX l (i::t)).length by omega),eq_of_beq h2,beq_self_eq_true];rfl)
  | false =>
   refine zaT (k:=t.length) (by omega) ?_
   unfold okT
   rw [hlast,h0,decide_eq_false (show ¬ t.length+1<(zX l (i::t)).length by omega)];rfl
theorem zbN {l:List Sht} {p:Int}:∀ k,(z95 l p k).Pairwise (· < ·)
 | 0=>List.Pairwise.nil
 | k+1=>by
  have ih:=zbN (l:=l) (p:=p) k
  show (bif (zg l k).paper==p then z95 l p k++[k] else z95 l p k).Pairwise _
  cases (zg l k).paper==p with
  | false=>exact ih
  | true =>
   rw [cond_true,List.pairwise_append]
   exact ⟨ih,List.pairwise_singleton _ _,fun a ha b hb=>by rw [List.mem_singleton.1 hb];exact zas k a ha⟩
theorem zjO {A:List Nat} (hA:A.Nodup) {i k:Nat} (hi:i<A.length) (hk:k<A.length) (e:zy A i=zy A k):i=k:=by
 unfold zy at e
 rw [z0f hi,z0f hk] at e
 exact (List.getElem_inj hA).1 e
theorem z6T {A:List Nat} (hA:A.Nodup) {i:Nat} (hi:i<A.length):A.eraseIdx i=A.filter fun x=>!(x==zy A i):=by
 have e:A=A.take i++zy A i::A.drop (i+1):=by
  unfold zy
  rw [z0f hi,List.getElem_cons_drop,List.take_append_drop]
 have hA2:=hA
 generalize zy A i=z at *
 rw [e,List.nodup_append,List.nodup_cons] at hA2
 rw [List.eraseIdx_eq_take_drop_succ]
 conv=>rhs;rw [e]
 rw [List.filter_append,List.filter_cons_of_neg (by rw [beq_self_eq_true];decide)]
 congr 1
 ·refine (List.filter_eq_self.2 fun x hx=>?_).symm
  have:=hA2.2.2 x hx z (List.mem_cons_self ..)
  simpa using this
 ·refine (List.filter_eq_self.2 fun x hx=>?_).symm
  have:x≠z:=fun g=>hA2.2.1.1 (g ▸ hx)
  simpa using this
theorem zk7 {β : Type} (H:Nat→List β) (A:List Nat):(List.range A.length).flatMap (fun i=>H (zy A i))=A.flatMap H:=by
 have e:A=(List.range A.length).map fun i=>zy A i:=by
  refine List.ext_getElem (by rw [List.length_map,List.length_range]) fun k h1 h2=>?_
  rw [List.getElem_map,List.getElem_range]
  exact (z0f h1).symm
 conv=>rhs;rw [e,List.flatMap_map]
theorem z4y {β : Type} {H K:Nat→List β}:∀ {A:List Nat},(∀ x∈A,H x=K x)→A.flatMap H=A.flatMap K
 | [],_=>rfl
 | x::A,h=>by
  rw [List.flatMap_cons,List.flatMap_cons,h x (List.mem_cons_self ..),z4y fun y hy=>h y (List.mem_cons_of_mem _ hy)]
theorem z4X {β : Type} (q:Nat→Bool) (H:Nat→List β):∀ A:List Nat,(A.filter q).flatMap H=A.flatMap fun x=>bif q x then H x else []
 | []=>rfl
 | x::A=>by
  rw [List.flatMap_cons]
  cases hq:q x with
  | true=>rw [List.filter_cons_of_pos hq,List.flatMap_cons,z4X q H A];rfl
  | false=>rw [List.filter_cons_of_neg (by rw [hq];decide),z4X q H A];rfl
def lfL (n:Nat) (row:List Nat):List Nat:=(List.range n).filter fun i=>!row.contains i
theorem zeo {n:Nat} {row:List Nat} {e:Nat}:(lfL n row).filter (fun x=>!(x==e))=lfL n (e::row):=by
 unfold lfL
 rw [List.filter_filter]
 congr 1
 funext i
 rw [List.contains_cons]
 cases (i==e) <;> cases row.contains i <;> rfl
theorem zhy {n:Nat} {row:List Nat}:(lfL n row).Nodup:=List.nodup_range.sublist List.filter_sublist
theorem zm8 {A:List Nat} {g:Nat→Nat} {i:Nat} (hi:i<A.length):zy (A.map g) i=g (zy A i):=by
 unfold zy
 rw [z0f (show i<(A.map g).length by rw [List.length_map];exact hi),List.getElem_map,z0f hi]
theorem zc9 {g:Nat→Nat}:∀ {A:List Nat} {i:Nat},(A.map g).eraseIdx i=(A.eraseIdx i).map g
 | [],_=>by simp
 | a::A,0=>rfl
 | a::A,i+1=>by
  show g a::(A.map g).eraseIdx i=g a::(A.eraseIdx i).map g
  rw [zc9]
theorem zbG {h:Hp} (n:OkH h) {l:List Sht} {g:Nat→Nat} (hg:∀ i,i<l.length→zg l i=zg h.st (g i)) (hinj:∀ i k,i<l.length→k<l.length→i≠k→g i≠g k) (hpp:∀ i k,i<l.length→k<l.length→(zg l i).paper=(zg l k).paper) :
  ∀ f (row:List Nat),f+row.length=l.length→(∀ i∈row,i<l.length)→zeM h l row→(lfL l.length row).length=f →
   z3X h f (row.map g).reverse ((lfL l.length row).map g)=((z7B h l f row).filter fun x=>zdZ h (zX l x)).map fun x=>(x.map g).reverse
 | 0,row,hn,hlt,hc,_=>by
  have ht:=zgA hc
  show (bif zkc h (row.map g).reverse then [] else [(row.map g).reverse])=([row].filter _).map _
  have he:zkc h (row.map g).reverse = !zpV h l row:=by
   cases row with
   | nil=>rfl
   | cons i t =>
    have hi:=hlt i (List.mem_cons_self ..)
    have hl:z2j ((i::t).map g).reverse=g i:=by
     unfold z2j zy
     rw [List.map_cons,List.reverse_cons,List.getD_eq_getElem?_getD,List.length_append,List.getElem?_append_right (by simp)]
     simp
    have hz:Nat.beq ((i::t).map g).reverse.length 0=false:=zdF (by rw [List.length_reverse,List.length_map];exact Nat.succ_ne_zero _)
    unfold zkc
    rw [hz,hl,cond_false,zls n,←hg i hi];rfl
  rw [he,←ht]
  cases hb:zdZ h (zX l row) with
  | true=>rw [List.filter_cons,if_pos hb];rfl
  | false=>rw [List.filter_cons,if_neg (by rw [hb];decide)];rfl
 | f+1,row,hn,hlt,hc,hf=>by
  have hA:=zhy (n:=l.length) (row:=row)
  have hAm:∀ e∈lfL l.length row,e<l.length∧row.contains e=false:=fun e he=>by
   obtain ⟨h1,h2⟩:=List.mem_filter.1 he
   exact ⟨List.mem_range.1 h1,by simpa using h2⟩
  -- the reference's side,element by element
  have e1:z3X h (f+1) (row.map g).reverse ((lfL l.length row).map g)=(lfL l.length row).flatMap fun e=>bif zeN h (row.map g).reverse (g e) then z3X h f ((e::row).map g).reverse ((lfL l.length (e::row)).map g) else []:=by
   rw [←zk7]
   show (List.range ((lfL l.length row).map g).length).flatMap _=_
   rw [List.length_map]
   refine z4y fun i hi=>?_
   have hi:=List.mem_range.1 hi
   rw [zm8 hi,←zeo,←z6T hA hi,List.map_cons,List.reverse_cons]
   congr 2
   rw [zc9]
  have e2:z7B h l (f+1) row=(lfL l.length row).flatMap fun e=>bif okR h l row e then z7B h l f (e::row) else []:=by
   unfold lfL
   rw [z4X]
   refine z4y fun i hi=>?_
   cases hcn:row.contains i with
   | true=>rw [zd8 hcn];rfl
   | false=>rfl
  rw [e1,e2,List.filter_flatMap,List.map_flatMap]
  refine z4y fun e he=>?_
  obtain ⟨h1,h2⟩:=hAm e he
  have hcan:zeN h (row.map g).reverse (g e)=okR h l row e:=by
   cases row with
   | nil =>
    show (!zg2 h (zg h.st (g e)))=(frS h (zg l e).id==0)
    rw [zmy n,←hg e h1,Bool.not_not]
   | cons j t =>
    have hj:=hlt j (List.mem_cons_self ..)
    have hl:z2j ((j::t).map g).reverse=g j:=by
     unfold z2j zy
     rw [List.map_cons,List.reverse_cons,List.getD_eq_getElem?_getD,List.length_append,List.getElem?_append_right (by simp)]
     simp
    have hje:j≠e:=fun x=>by
     rw [x,List.contains_cons,beq_self_eq_true] at h2;cases h2
    rw [z7q h2,zpj (m:=t.length) (by rw [List.length_reverse,List.length_map];rfl),hl,←hg j hj,←hg e h1,znP n (hinj j e hj h1 hje) (hpp j e hj h1)]
  rw [hcan]
  cases hok:okR h l row e with
  | false=>rfl
  | true =>
   rw [cond_true,cond_true]
   refine zbG n hg hinj hpp f (e::row) (by show f+(row.length+1)=_;omega) (fun i hi=>?_) (zfM hc hok) ?_
   ·rcases List.mem_cons.1 hi with rfl | hi
    ·exact h1
    ·exact hlt i hi
   ·rw [←zeo]
    obtain ⟨k,hk,ek⟩:=z0I (d:=0) he
    have:=z6T hA hk
    rw [show zy (lfL l.length row) k=e from ek] at this
    rw [←this,List.length_eraseIdx_of_lt hk];omega
end Go.Proofs.YtdpipdniklognaaGreat
