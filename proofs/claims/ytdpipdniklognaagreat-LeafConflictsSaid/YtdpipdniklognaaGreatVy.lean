/- The program's LeafConflicts returns true for all heaps, papers and lists of holes, valid or not, without an exception and without changing its arguments: a part of the proof. -/
import Derived.Test.YtdpipdniklognaaGreatVx
import Derived.Test.YtdpipdniklognaaGreatVe
import Derived.Test.YtdpipdniklognaaGreatRows
import Derived.Test.YtdpipdniklognaaGreatVw
import Derived.JoinedOf
set_option linter.all false
/- Walks: Order, Count, Nth, CheckOrder of both sides. -/
set_option maxRecDepth 100000
namespace Go.Proofs.YtdpipdniklognaaGreat
variable {r:Rm}
end Go.Proofs.YtdpipdniklognaaGreat
/- Walks: Nth of both sides, CheckOrder of the program. -/
set_option maxRecDepth 100000
namespace Go.Proofs.YtdpipdniklognaaGreat
variable {r:Rm}
end Go.Proofs.YtdpipdniklognaaGreat
/- Walks of the reference: isOrder. -/
set_option maxRecDepth 100000
namespace Go.Proofs.YtdpipdniklognaaGreat
variable {r:Rm}
def ixI (h:Hp) (id:Int):Int:=z7z h.st fun s=>s.id==id
def zqj (h:Hp) (o:List Int) (k:Nat):List Int:=(o.take k).map (ixI h)
def zpO (l:List Int) (k:Nat):Int:=l.getD k 0
def g1 (h:Hp) (p:Int) (o:List Int) (i:Nat):Bool:=(zn8 h.st p).contains (zpO o i) && !(zqj h o i).contains (ixI h (zpO o i))
def zqh (h:Hp) (by_:List Nat):Nat→Bool
 | 0=>zg2 h (zg h.st (zy by_ 0))
 | m+1=>!z7e h (zy by_ m) (zy by_ (m+1)) (zg h.st (zy by_ m)) (zg h.st (zy by_ (m+1)))
def zqg (h:Hp) (by_:List Nat) (k:Nat):Bool:=Nat.beq (k+1) by_.length&&zgL h (zg h.st (zy by_ k))
def g2 (h:Hp) (by_:List Nat) (k:Nat):Bool:=!(zqh h by_ k||zqg h by_ k)
end Go.Proofs.YtdpipdniklognaaGreat
/- Plain: whether a list is an order is the same on both sides. -/
set_option maxRecDepth 100000
namespace Go.Proofs.YtdpipdniklognaaGreat
end Go.Proofs.YtdpipdniklognaaGreat
/- Walks: Hole of both sides, CheckOrder of the reference. -/
set_option maxRecDepth 100000
namespace Go.Proofs.YtdpipdniklognaaGreat
variable {r:Rm}
end Go.Proofs.YtdpipdniklognaaGreat
/- The law LeafOrders. -/
set_option maxRecDepth 100000
namespace Go.Proofs.YtdpipdniklognaaGreat
variable {r:Rm}
theorem zky {E:Env} {f:FuncId} (hk:z2F E f []=true):VP E f [] (bv true) :=
 ⟨rfl,fun S Z j vs hS hv hl=>by
  cases hv
  exact ⟨1,.bool true,S,fun m hm=>by
   obtain ⟨k,rfl,_⟩:=zh hm
   show bf (z2F E f []) _ _=_
   rw [hk];rfl,bv true,[],Z,j,hS,.p (.bool true),Ex.refl _ _ _,hl,Stay.refl _ _,rfl,rfl⟩⟩
end Go.Proofs.YtdpipdniklognaaGreat
/- Walks: sets of holes that orders break (a map), and whether some holes meet each of them. -/
set_option maxRecDepth 100000
namespace Go.Proofs.YtdpipdniklognaaGreat
variable {r:Rm}
def zcv (M:List Nat):Nat→Option PV:=fun k=>bif M.contains k then some (.bool true) else none
theorem zeZ {m k:Nat} (hm:m<9223372036854775808) (hk:k<9223372036854775808):ziN (Int.ofNat m) (Int.ofNat k)=Int.ofNat (m &&& k):=by
 have h1:(BitVec.ofInt 64 (Int.ofNat m) &&& BitVec.ofInt 64 (Int.ofNat k)).toNat=m &&& k:=by
  rw [z1z,z1z,BitVec.toNat_and,z1T (by omega),z1T (by omega)]
 have h2:m &&& k≤m:=Nat.and_le_left
 show IntKind.i64.wrap (Int.ofNat (BitVec.ofInt 64 (Int.ofNat m) &&& BitVec.ofInt 64 (Int.ofNat k)).toNat)=_
 rw [z5P _ (by rw [h1];omega),h1]
def zV (M:List Nat) (a:Nat):Bool:=M.all fun k=>!(a &&& k==0)
theorem z7A {S:St} {Z:Nat→Prop} {j:Nm} {L:VS} {i a:Nat} {m:Option Nat} {M:List Nat} {vs:List Value} (hS:SR (sE r) S Z j L) (hvs:VRs (sE r) S Z j [.map i,iv (Int.ofNat a)] vs) (hb:bk L i=some (.mapA m (zcv M) [])) (ha:a<9223372036854775808) (hM:∀ k∈M,k<9223372036854775808) :
  ∃ v n,(∀ k,n≤k→(Proofs.YtdpipdniklognaaGreat.run (sE r) k).call 85 vs S=some (v,S))∧VR (sE r) S Z j (bv (zV M a)) v:=by
 cases hvs with
 | cons h1 hl =>
  cases hl with
  | cons h2 hl =>
   cases hl
   cases h1 with
   | map hj =>
    rename_i b
    cases h2 with
    | p h2 =>
     cases h2
     obtain ⟨b0,hj0,l,g1,⟨g2,_⟩,g3⟩:=hS.blk i _ hb (by intro h;cases h)
     rw [hj] at hj0;cases hj0
     have hmem:∀ k v,(k,v)∈l→k∈M∧v = .bool true:=fun k v hkv=>by
      have e1:=zbI g2 hkv
      obtain ⟨e2,e3⟩:=g3 k
      have e4:(zcv M k).isSome=true:=by
       have:(z0R k l).isSome=(zcv M k).isSome:=e2
       rw [←this,e1];rfl
      have e5:M.contains k=true:=by
       cases hc:M.contains k with
       | true=>rfl
       | false=>unfold zcv at e4;rw [hc] at e4;cases e4
      have e6:VR (sE r) S Z j (.p ((zcv M k).getD .nilp)) v:=e3 v e1
      unfold zcv at e6
      rw [e5] at e6
      refine ⟨List.contains_iff_mem.1 e5,?_⟩
      cases e6 with
      | p h=>cases h;rfl
     have hin:∀ k,k∈M→∃ v,(k,v)∈l:=fun k hk=>by
      have e2:(z0R k l).isSome=(zcv M k).isSome:=(g3 k).1
      have e4:(zcv M k).isSome=true:=by unfold zcv;rw [List.contains_iff_mem.2 hk];rfl
      rw [e4] at e2
      obtain ⟨v,hv⟩:=Option.isSome_iff_exists.1 e2
      exact ⟨v,z9u hv⟩
     have e1:((z3Q l).all fun p=>z6S p.1&&z6r p.2)=true:=by
      rw [List.all_eq_true]
      intro q hq
      obtain ⟨p,hp,rfl⟩:=List.mem_map.1 hq
      have:=(hmem p.1 p.2 hp).2
      show (true&&z6r p.2)=true
      rw [this];rfl
     have e2:((z3Q l).all fun p=>ziN (Int.ofNat a) (zkR p.1) != 0)=zV M a:=by
      unfold zV
      rw [Bool.eq_iff_iff,List.all_eq_true,List.all_eq_true]
      constructor
      ·intro h k hk
       obtain ⟨v,hv⟩:=hin k hk
       have:=h _ (List.mem_map.2 ⟨(k,v),hv,rfl⟩)
       have:(ziN (Int.ofNat a) (Int.ofNat k) != 0)=true:=this
       rw [zeZ ha (hM k hk)] at this
       rw [←z4s];exact this
      ·intro h q hq
       obtain ⟨p,hp,rfl⟩:=List.mem_map.1 hq
       have hk:=(hmem p.1 p.2 hp).1
       have:=h _ hk
       show (ziN (Int.ofNat a) (Int.ofNat p.1) != 0)=true
       rw [zeZ ha (hM _ hk)]
       rw [←z4s] at this;exact this
     refine ⟨.bool (zV M a),1,fun k hk=>?_,.p (.bool _)⟩
     obtain ⟨k,rfl,_⟩:=zh hk
     have hh:z2F (sE r) 85 [.map (some b),.int .i64 (Int.ofNat a)]=false:=by
      obtain ⟨t,q⟩:=r
      cases q <;> rfl
     show bf (z2F (sE r) 85 [.map (some b),.int .i64 (Int.ofNat a)]) _ _=_
     rw [hh]
     show ob (ob (ob (S.heap.get b) z9v) fun es=>gd (es.all fun p=>z6S p.1&&z6r p.2) (some (Value.bool (es.all fun p=>ziN (Int.ofNat a) (zkR p.1) != 0)))) (fun v=>some (v,S))=_
     rw [g1]
     show ob (gd ((z3Q l).all fun p=>z6S p.1&&z6r p.2) (some (Value.bool ((z3Q l).all fun p=>ziN (Int.ofNat a) (zkR p.1) != 0)))) (fun v=>some (v,S))=_
     rw [e1,e2];rfl
def z3R (h:Hp) (p:Int):List Nat:=((zcS h (zW h.st p)).filter fun row=>zdZ h (zX (zW h.st p) row)).map fun row=>zR (zX (zW h.st p) row) 12
def zl7 (h:Hp) (p:Int) (q:Nat):List Nat:=(((zcS h (zW h.st p)).take q).filter fun row=>zdZ h (zX (zW h.st p) row)).map fun row=>zR (zX (zW h.st p) row) 12
set_option maxHeartbeats 8000000 in
theorem zcj {h:Hp} {p:Int} (hz:SzH h) (hO:OkH h):VC (sE r) [] 83 [.agg ((eHp h).map .p),iv p] [] (fun a L'=>a = .map 0∧L'=[(0,.mapA none (zcv (z3R h p)) [])]):=by
 have hb7:=zaL hO p
 have hsw:=hO.sw
 have hst:=hO.st
 refine z7c (fn:=Tryz.f83) za (zH rfl) (by kernel_rfl) rfl rfl ?_
 refine VSt.go za false [7] 200 rfl AllP.n ?_
 refine zb (z00 0 (eHp h) rfl rfl) ?_
 refine VSt.go za false [] 200 rfl AllP.n ?_
 refine z0E rfl rfl rfl rfl rfl rfl rfl rfl ((ziA (h:=h) (p:=p) hz (by omega))) ?_
 refine VSt.go za false [] 200 rfl AllP.n ?_
 refine z0E rfl rfl rfl rfl rfl rfl rfl rfl ((rows_ok (h:=h) (b:=h.stB) (l:=zW h.st p))) ?_
 refine VSt.go za false [] 200 rfl AllP.n ?_
 refine z05 (Vw.kp [2,4,5,12] [(11,1),(10,0)] rfl) ?_
 refine z4N 0 (s5 [10,11]) rfl rfl rfl rfl rfl
  (zjo (by omega) (by omega) [10,11] (fun q X=>∃ m f,X=[(11,.cells [.map 10] 108),(10,.mapA m f [])]∧∀ k,f k=zcv (zl7 h p q) k) (fun _ _=>False)
   (fun i hi=>by show bk [(11,_),(10,_)] i=none;rw [z08,if_neg (by omega),z08,if_neg (by omega)];rfl) ⟨_,_,rfl,fun _=>rfl⟩ rfl ?_) (fun a L' ha=>?_)
 ·rintro q row g X hq hn hg ⟨m,f,rfl,hf⟩
  have hrl:(zW h.st p).length=(zX (zW h.st p) row).length:=by rw [z5q,hn]
  have hg2:∀ k,k<(zW h.st p).length→g k=zg (zX (zW h.st p) row) k:=fun k hk=>hg k (by omega)
  have hmem:=List.mem_of_getElem? hq
  have hbit:=zlJ hO (ze6 hmem)
  have hnx:zl7 h p (q+1)=zl7 h p q++bif zdZ h (zX (zW h.st p) row) then [zR (zX (zW h.st p) row) 12] else []:=by
   unfold zl7
   rw [List.take_add_one,hq,List.filter_append,List.map_append]
   cases hc:zdZ h (zX (zW h.st p) row) <;> simp [hc]
  unfold z8Z
  refine zf za false [] 200 rfl AllP.n ?_
  refine ⟨rfl,_,rfl,?_⟩
  refine zf za false [] 200 rfl AllP.n ?_
  refine zct (F0:=[(14,.agg ((eHp h).map .p)),(15,.p (.lst 74 false (zW h.st p).length fun q=>y5 (g q)))]) (zaU (i:=5) rfl (znS rfl rfl (zep rfl (Nat.le_refl _) (Nat.le_refl _) z7w))) rfl rfl rfl rfl rfl rfl rfl
   (VP.imp (zfb (h:=h) (b:=false) (l:=zX (zW h.st p) row) (by omega) (by omega)) ⟨AImp.refl _,zhu hrl hg2,trivial⟩) rfl ?_
  refine zf za false [] 200 rfl AllP.n ?_
  refine VSt.cond rfl (fun h1=>?_) (fun h1=>?_)
  rotate_left
  ·have h1:zdZ h (zX (zW h.st p) row)=false:=h1
   refine zf za false [] 200 rfl AllP.n ?_
   refine .inl ⟨rfl,[],g,_,Vw.sub' (z7d z0u),hg,_,_,rfl,fun k=>?_⟩
   rw [hf,hnx,h1,cond_false,List.append_nil]
  have h1:zdZ h (zX (zW h.st p) row)=true:=h1
  refine zf za false [] 200 rfl AllP.n ?_
  refine z9U (F0:=[(18,.p (.lst 74 false (zW h.st p).length fun q=>y5 (g q)))]) (zaU (i:=5) rfl (zep rfl (Nat.le_refl _) (Nat.le_refl _) z7w)) rfl rfl rfl rfl rfl rfl rfl
   (VP.imp (ziB (b:=false) (l:=zX (zW h.st p) row) (by omega) hbit) ⟨zhu hrl hg2,trivial⟩) rfl ?_
  refine zf za false [] 200 rfl AllP.n ?_
  refine .inl ⟨rfl,[],g,_,Vw.sub' (z7d z0u),hg,_,_,rfl,fun k=>?_⟩
  show (bif Nat.beq (zR (zX (zW h.st p) row) 12) k then some (PV.bool true) else f k)=_
  rw [hf,hnx,h1,cond_true]
  unfold zcv
  cases hb:Nat.beq (zR (zX (zW h.st p) row) 12) k with
  | true =>
   rw [List.contains_iff_mem.2 (show k∈zl7 h p q++[zR (zX (zW h.st p) row) 12] from List.mem_append.2 (.inr (List.mem_singleton.2 (Nat.eq_of_beq_eq_true hb).symm)))];rfl
  | false =>
   have e:(zl7 h p q++[zR (zX (zW h.st p) row) 12]).contains k=(zl7 h p q).contains k:=by
    rw [Bool.eq_iff_iff,List.contains_iff_mem,List.contains_iff_mem,List.mem_append,List.mem_singleton]
    constructor
    ·rintro (h | rfl)
     ·exact h
     ·rw [show Nat.beq (zR (zX (zW h.st p) row) 12) (zR (zX (zW h.st p) row) 12)=true from Nat.beq_refl _] at hb;cases hb
    ·exact .inl
   rw [e];rfl
 ·rcases ha with ⟨g1,X1,rfl,m,f,rfl,hf⟩ | ⟨g1,X1,e,G3,he,rfl,hJ⟩
  rotate_left
  ·exact hJ.elim
  refine ⟨_,_,_,.normal,_,_,_,_,rfl,rfl,rfl,?_⟩
  refine zf za false [4] 200 rfl AllP.n ?_
  refine zb (z1a (ps:=[(0,10)]) (F0:=[(20,.map 0)]) (L0:=[(0,.mapA none (zcv (z3R h p)) [])]) ⟨rfl,rfl,(by repeat (first | exact zu | refine zk rfl rfl rfl ?_)),_,rfl,⟨rfl,zj1 (.inr rfl) (fun k=>?_),trivial⟩⟩) ?_
  ·rw [hf];unfold zl7 z3R;rw [List.take_length]
  refine VSt.go za false [] 200 rfl AllP.n ?_
  exact ⟨rfl,_,rfl,rfl,rfl⟩
end Go.Proofs.YtdpipdniklognaaGreat
/- Walks: sets of holes, lists of holes in order. -/
set_option maxRecDepth 100000
namespace Go.Proofs.YtdpipdniklognaaGreat
variable {r:Rm}
def zT (l:List Nat):Nat:=l.foldl (fun m k=>m ||| 1 <<< k) 0
theorem zgQ (l:List Nat) (k:Nat):zT (l++[k])=zT l ||| 1 <<< k:=by unfold zT;rw [List.foldl_append];rfl
theorem zbd {l:List Nat} {k:Nat} (h:k<l.length):zT (l.take (k+1))=zT (l.take k) ||| 1 <<< zy l k:=by
 rw [List.take_add_one,show l[k]? = some (zy l k) by rw [List.getElem?_eq_getElem h];exact congrArg some (z0f h).symm]
 exact zgQ _ _
theorem z6f:∀ (l:List Nat),(∀ k∈l,k<12)→zT l<4096:=by
 intro l
 have key:∀ (l:List Nat) (m:Nat),m<4096→(∀ k∈l,k<12)→l.foldl (fun m k=>m ||| 1 <<< k) m<4096:=by
  intro l
  induction l with
  | nil=>intro m hm _;exact hm
  | cons a l ih =>
   intro m hm h
   refine ih _ ?_ fun k hk=>h k (List.mem_cons_of_mem _ hk)
   refine Nat.or_lt_two_pow (n:=12) hm ?_
   rw [Nat.one_shiftLeft];exact Nat.pow_lt_pow_right (by decide) (h a List.mem_cons_self)
 exact key l 0 (by decide)
theorem zgM {b:Bool} {l:List Nat} (hl:l.length≤1000) (h:∀ k∈l,k<12):VP (sE r) 86 [.p (zQ b l)] (iv (Int.ofNat (zT l))):=by
 have hlm:(l.map Int.ofNat).length=l.length:=List.length_map _
 refine VP.of (fn:=Tryz.f86) za (zH rfl) (by kernel_rfl) rfl rfl rfl ?_
 refine VSt.go za false [] 200 rfl AllP.n ?_
 refine z0W za (l.map Int.ofNat).length (by omega) [6] (fun k=>[(3,iv (Int.ofNat (zT (l.take k))))]) (fun _=>[]) (fun _=>True) rfl rfl rfl (fun _=>rfl) rfl rfl (z0L rfl (AImp.refl _) z0l) trivial trivial (fun k hk _=>?_) (fun _=>?_)
 ·have hk2:k<l.length:=by omega
  have h12:zy l k<12:=h _ (z0J hk2)
  have hlt:zT (l.take k)<4096:=z6f _ fun i hi=>h i (List.mem_of_mem_take hi)
  refine VSt.go za false [5] 200 rfl (AllP.c ‹_› (AllP.c rfl AllP.n)) ?_
  refine zw 11 (nv (zy l k)) rfl (z0K z0H) ?_
  refine VSt.go za false [] 200 rfl AllP.n ?_
  refine VSt.pc rfl rfl rfl rfl rfl rfl rfl rfl ((zcz (m:=zT (l.take k)) (k:=zy l k) (by omega) (by omega))) ?_
  refine VSt.go za false [] 200 rfl AllP.n ?_
  refine ⟨?_,trivial⟩
  dsimp only
  rw [zbd hk2]
  (refine Vw.drop (by repeat (first | exact zu | refine zk rfl rfl rfl ?_ | refine zA rfl ‹_› (zt _ ‹_›) ?_)))
 ·refine VSt.go za false [] 200 rfl AllP.n ?_
  refine EndsP.mk rfl rfl rfl ?_
  rw [hlm,List.take_length];rfl
theorem zim {l:List Int} (hn:l.length<1000000):VP (sE r) 87 [.p (eL l)] (.p (eL l)):=by
 refine VP.of (fn:=Tryz.f87) za (zH rfl) (by kernel_rfl) rfl rfl rfl ?_
 refine VSt.go za false [] 200 rfl AllP.n ?_
 refine VSt.cond rfl (fun h=>?_) (fun h=>?_)
 ·have h:l.isEmpty=true:=h
  have e:=List.isEmpty_iff.1 h
  subst e
  refine VSt.go za false [] 200 rfl AllP.n ?_
  exact ⟨rfl,_,rfl,rfl,AImp.nil⟩
 ·have h:l.isEmpty=false:=h
  have h0:0<l.length:=List.length_pos_iff.2 fun g=>by rw [g] at h;cases h
  unfold eL
  rw [h]
  refine VSt.go za false [2] 200 rfl (AllP.c ‹_› (AllP.c (by omega) (AllP.c (fun _ _=>rfl) (AllP.c rfl (AllP.c rfl (AllP.c (by omega) (AllP.c (by omega) AllP.n))))))) ?_
  refine zb (z1a (ps:=[(0,1)]) (F0:=[(7,.acc true 0 1 l.length)]) (L0:=[(0,.acc l.length 1 (fL l) 3)]) ⟨rfl,rfl,z0X rfl rfl (z6G h0 (Nat.zero_add _) (Nat.zero_add _)) zu,_,rfl,⟨rfl,z5f (Nat.zero_add _) (fun q _=>rfl),trivial⟩⟩) ?_
  refine zb (z0G 0 rfl rfl ⟨Nat.le_refl _,rfl⟩) ?_
  refine VSt.go za false [] 200 rfl AllP.n ?_
  refine EndsP.mk rfl rfl rfl ?_
  rw [z8W rfl];unfold eL;rw [h];rfl
theorem zjT {m:Nat}:VP (sE r) 84 [nv m] (.fn 134 [] [.p (.fp [.int .i64 (Int.ofNat m)] 0)]):=by
 refine VP.of (fn:=Tryz.f84) za (zH rfl) (by kernel_rfl) rfl rfl rfl ?_
 refine VSt.go za false [2] 200 rfl AllP.n ?_
 refine zb (z00 0 [.int .i64 (Int.ofNat m)] rfl rfl) ?_
 refine VSt.go za false [] 200 rfl AllP.n ?_
 exact EndsP.mk rfl rfl rfl rfl
end Go.Proofs.YtdpipdniklognaaGreat
/- Walks: the step of the iterator of lists of holes. -/
set_option maxRecDepth 100000
namespace Go.Proofs.YtdpipdniklognaaGreat
variable {r:Rm}
def scan {α : Type} (g:Nat→Option α):Nat→Nat→Option α
 | 0,_=>none
 | c+1,k=>match g k with
  | some x=>some x
  | none=>scan g c (k+1)
theorem zbg {α : Type} {g:Nat→Option α}:∀ c {k},(∀ i,i<c→g (k+i)=none)→scan g c k=none
 | 0,_,_=>rfl
 | c+1,k,h=>by
  show (match g k with | some x=>some x | none=>scan g c (k+1))=none
  rw [show g k=none from h 0 (Nat.succ_pos _)]
  exact zbg c fun i hi=>by rw [show k+1+i=k+(i+1) by omega];exact h (i+1) (by omega)
theorem zbf {α : Type} {g:Nat→Option α} {x : α}:∀ c {k} d,d<c→(∀ i,i<d→g (k+i)=none)→g (k+d)=some x→scan g c k=some x
 | 0,_,_,h,_,_=>absurd h (Nat.not_lt_zero _)
 | c+1,k,d,h,hn,hs=>by
  show (match g k with | some x=>some x | none=>scan g c (k+1))=some x
  cases d with
  | zero=>rw [show g k=some x from hs]
  | succ d =>
   rw [show g k=none from hn 0 (Nat.succ_pos _)]
   exact zbf c d (by omega) (fun i hi=>by rw [show k+1+i=k+(i+1) by omega];exact hn (i+1) (by omega)) (by rw [show k+1+d=k+(d+1) by omega];exact hs)
def fnd (P:List Nat→Bool):Nat→Nat→List Nat→Option (List Nat)
 | 0,_,pre=>bif P pre then some pre else none
 | f+1,k,pre=>scan (fun i=>fnd P f (i+1) (pre++[i])) (12 - k) k
def stepG (m:Nat):AV:=.fn 135 [] [.ref 2 0,.p (.fp [.int .i64 (Int.ofNat m)] 0),.ref 1 0,.ref 4 0]
def lsV (n:Nat):Nat→AV
 | 0=>.p (.lst 3 true 0 fun _=>[])
 | c+1=>.sl 5 1 0 n (c+1) 0
def lsB (g:Nat→Nat) (X:VS):Nat→VS
 | 0=>X
 | c+1=>(5,.arr (c+1) 1 (fun q=>[.int .i64 (Int.ofNat (g q))]) 3)::X
def lsM (m:Nat) (lp:VB) (n c:Nat) (g:Nat→Nat) (X:VS):VS :=
 (0,lp)::(1,.cells [.yld 0] 155)::(2,.cells [lsV n c] 37)::(4,.cells [stepG m] 119)::lsB g X c
abbrev s4 (s:List Nat):List Nat:=0::1::2::4::s
abbrev s45 (s:List Nat):List Nat:=0::1::2::4::5::s
theorem zco {b:Nat}:∀ {F:VK} {t:Nat} {a:AV},ak F t=some a→ak (z2w b F) t=some (purgeA b a)
 | [],t,a,h=>by cases h
 | (s,x)::l,t,a,h=>by
  simp only [z2w,ak] at h ⊢
  cases hb:Nat.beq s t with
  | true=>rw [hb] at h;cases h;rfl
  | false=>rw [hb] at h;exact zco h
theorem zqc {E:Env} {F:VK} {L:VS} {tb:Tab} {c:Call} {t elem esz n k:Nat} {sz0:Nat} {ag0:Bool} {zs0:List PV} (hT:zL E tb=true) (hc:c.callee = .builtin .len) (ht:c.argTypes.toList=[t]) (hi0:zY tb t=some ⟨sz0,ag0,.slice elem esz,zs0⟩) (ha:avs F c.args.toList=some [lsV n k]) (h0:k=0→n=0):PureA E F L (.call c) (nv n):=fun T S Z j hS hF=>by
 refine zb3 (L:=L) (obs:=[]) hT ?_ hS hF
 unfold zdV
 rw [hc,ht,ha]
 show zne tb L t (lsV n k)=_
 unfold zne
 rw [hi0]
 cases k with
 | zero=>rw [h0 rfl];rfl
 | succ k=>rfl
theorem z8X {E:Env} {F:VK} {L:VS} {tb:Tab} {o:Op} {a:AV} (hT:zL E tb=true) (h:zkD tb F L o=some ([],a)):PureA E F L o a:=fun _ _ _ _ hS hF=>zgj hT h (fun _ h=>by cases h) hS hF
theorem ziX {N:Nat} {st:List Nat} {rd:Option Nat} {Q:zN} {F F1:VK} {ops:Array Oper} {o:Oper} {rest:List Oper} {K:List KI} {c:Call} {m n cc x ty:Nat} {nb:Bool} {g:Nat→Nat} {X:VS} {f:Nat→List PV} {N2:Nat} {G:VK} {ps:List Tmp} {asg body:Code} (hg:vgl ops F o.guard=some true) (hd:zJ o.dst N=true) (hop:o.op = .call c) (hc:c.callee = .builtin .append) (ht:c.argTypes.toList=[37,37])
  (ha:avs F c.args.toList=some [lsV n cc,.p (.lst ty nb 1 f)]) (hf:f 0=[.int .i64 (Int.ofNat x)]) (hn:n≤cc) (hcc:cc≤1000) (hX:bk X 5=none) (hX2:z1n 5 (rm X 5)=X) (hG:z2w 5 G=G) (hst:(st.all fun k=>!Nat.beq k 5)=true)
  (hF1:∀ p∈F1,ak F p.1=some p.2∧purgeA 5 p.2=p.2)
  (h:∀ c2 g2,n+1≤c2→(c2=cc∨c2=n+1)→(∀ q,q≤n→g2 q=if q=n then x else g q)→VSt.H (sE r) N st rd Q (.ops ops rest K (zM o.dst (lsV (n+1) c2) F1) ((0,.loop .ready none G N2 ps asg body)::(1,.cells [.yld 0] 155)::(2,.cells [.junk] 37)::(4,.cells [stepG m] 119)::lsB g2 X c2))) :
  VSt.H (sE r) N st rd Q (.ops ops (o::rest) K F (lsM m (.loop .ready none G N2 ps asg body) n cc g X)):=by
 have o3:∀ i,i<1→(f i).length=1:=fun i hi=>by
  have:i=0:=by omega
  rw [this,hf];rfl
 have hj:∀ a:AV,AImp a .junk:=fun a _ _ _ _ v _=>.junk v
 have hsub:∀ {F2:VK} {a:AV},(∀ p∈F1,ak F2 p.1=some p.2)→∀ t b,ak (zM o.dst a F1) t=some b→ak (zM o.dst a F2) t=some b:=fun {F2 a} hp t b hb=>by
  cases hd2:o.dst with
  | none=>rw [hd2] at hb;exact hp _ (z3N hb)
  | some d =>
   rw [hd2] at hb
   have hb:ak ((d,a)::F1) t=some b:=hb
   show ak ((d,a)::F2) t=some b
   rw [ak_cons] at hb ⊢
   by_cases e:t=d
   ·rw [if_pos e] at hb ⊢;exact hb
   ·rw [if_neg e] at hb ⊢;exact hp _ (z3N hb)
 cases cc with
 | zero =>
  have hn0:n=0:=by omega
  subst hn0
  refine zfV 5 za hg hd hop hc ht rfl rfl ha hX (by decide) (by decide) o3 ?_
  refine zb (Vw.trans (Vw.sub' (hsub fun p hp=>(hF1 p hp).1)) (Vw.trans (Vw.perm (L':=(0,.loop .ready none G N2 ps asg body)::(1,.cells [.yld 0] 155)::(2,.cells [lsV 0 0] 37)::(4,.cells [stepG m] 119)::(5,.arr 1 1 f 3)::X) fun i=>?_) (Vw.imp (L':=(0,.loop .ready none G N2 ps asg body)::(1,.cells [.yld 0] 155)::(2,.cells [.junk] 37)::(4,.cells [stepG m] 119)::lsB (fun _=>x) X 1) ⟨rfl,BImp.refl _,rfl,BImp.refl _,rfl,BImp.cell1 (hj _),rfl,BImp.refl _,rfl,BImp.arr (fun k hk=>?_),LImp.refl _⟩))) (h 1 (fun _=>x) (by omega) (.inr rfl) fun q hq=>?_)
  ·match i with
   | 0=>rfl
   | 1=>rfl
   | 2=>rfl
   | 3=>rfl
   | 4=>rfl
   | 5=>rfl
   | n+6=>rfl
  ·have:k=0:=by omega
   rw [this,hf]
  ·rw [if_pos (by omega)]
 | succ c =>
  by_cases e:n=c+1
  ·subst e
   refine ziW za hg hd hop hc ht rfl rfl ha rfl hst (by decide) (by omega) o3 ?_
   have hm:(5,VB.arr (c+1+1) 1 (fun i=>bif Nat.blt i (c+1) then (fun q=>[PV.int .i64 (Int.ofNat (g q))]) i else f (i - (c+1))) 3)::z1n 5 (rm (lsM m (.loop .ready none G N2 ps asg body) (c+1) (c+1) g X) 5) =
     (5,VB.arr (c+1+1) 1 (fun i=>bif Nat.blt i (c+1) then (fun q=>[PV.int .i64 (Int.ofNat (g q))]) i else f (i - (c+1))) 3)::(0,.loop .ready none (z2w 5 G) N2 ps asg body)::(1,.cells [.yld 0] 155)::(2,.cells [.junk] 37)::(4,.cells [stepG m] 119)::z1n 5 (rm X 5):=rfl
   rw [hm,hG,hX2]
   refine zb (Vw.trans (Vw.sub' (hsub fun p hp=>(zco (hF1 p hp).1).trans (congrArg some (hF1 p hp).2))) (Vw.trans (Vw.perm (L':=(0,.loop .ready none G N2 ps asg body)::(1,.cells [.yld 0] 155)::(2,.cells [.junk] 37)::(4,.cells [stepG m] 119)::(5,.arr (c+1+1) 1 (fun i=>bif Nat.blt i (c+1) then (fun q=>[PV.int .i64 (Int.ofNat (g q))]) i else f (i - (c+1))) 3)::X) fun i=>?_) (Vw.imp (L':=(0,.loop .ready none G N2 ps asg body)::(1,.cells [.yld 0] 155)::(2,.cells [.junk] 37)::(4,.cells [stepG m] 119)::lsB (fun q=>if q=c+1 then x else g q) X (c+2)) ⟨rfl,BImp.refl _,rfl,BImp.refl _,rfl,BImp.refl _,rfl,BImp.refl _,rfl,BImp.arr (fun k hk=>?_),LImp.refl _⟩))) (h (c+2) (fun q=>if q=c+1 then x else g q) (by omega) (.inr rfl) fun q hq=>rfl)
   ·match i with
    | 0=>rfl
    | 1=>rfl
    | 2=>rfl
    | 3=>rfl
    | 4=>rfl
    | 5=>rfl
    | n+6=>rfl
   ·dsimp only
    by_cases e2:k=c+1
    ·rw [if_pos e2,show Nat.blt k (c+1)=false from zkm (by omega),e2,Nat.sub_self,hf];rfl
    ·rw [if_neg e2,show Nat.blt k (c+1)=true from ziC (by omega)];rfl
  ·refine zkx za hg hd hop hc ht rfl rfl ha rfl (by decide) (by omega) o3 (by omega) (by omega) ?_
   refine zb (Vw.trans (Vw.sub' (hsub fun p hp=>(hF1 p hp).1)) (Vw.imp (L':=(0,.loop .ready none G N2 ps asg body)::(1,.cells [.yld 0] 155)::(2,.cells [.junk] 37)::(4,.cells [stepG m] 119)::lsB (fun q=>if q=n then x else g q) X (c+1)) ⟨rfl,BImp.refl _,rfl,BImp.refl _,rfl,BImp.cell1 (hj _),rfl,BImp.refl _,rfl,BImp.arr (fun k hk=>?_),LImp.refl _⟩)) (h (c+1) (fun q=>if q=n then x else g q) (by omega) (.inl rfl) fun q hq=>rfl)
   dsimp only
   by_cases e2:k=n
   ·rw [if_pos e2,e2,Nat.zero_add,show Nat.ble n n=true from z2l (Nat.le_refl _),show Nat.blt n (n+1)=true from ziC (Nat.lt_succ_self _),Nat.sub_self,hf];rfl
   ·rw [if_neg e2]
    have:(Nat.ble (0+n) k&&Nat.blt k (0+n+1))=false:=by
     cases hb:(Nat.ble (0+n) k&&Nat.blt k (0+n+1)) with
     | false=>rfl
     | true =>
      simp only [Bool.and_eq_true] at hb
      have h1:=zG hb.1
      have h2:=z0q hb.2
      omega
    rw [this];rfl
def zqo (r:Rm) (m:Nat) (N:Nat) (s:List Nat) (G:VK) (ps:List Tmp) (asg body:Code) (P:List Nat→Bool) (I:VS→Prop) (J:List Nat→LExit→VS→Prop) (row:List Nat):zN:=fun e F2 L2 =>
 (e = .normal∧P row=false∧∃ F0 g X,Vw (sE r) (s45 s) F2 L2 F0 (lsM m (.loop .busy none G N ps asg body) m m g X)∧(∀ k,k<m→g k=zy row k)∧I X) ∨
 (zm e=false∧P row=true∧∃ F0 g X G3,Vw (sE r) (s45 s) F2 L2 F0 (lsM m (.loop .busy none G3 N ps asg body) m m g X)∧J row e X)
def zq1 (r:Rm) (m:Nat) (N:Nat) (s:List Nat) (G:VK) (ps:List Tmp) (asg body:Code) (P:List Nat→Bool) (I:VS→Prop) (J:List Nat→LExit→VS→Prop) (row:List Nat):zN:=fun e F1 L1 =>
 e = .normal∧∃ G2,bk L1 0=some (.loop .ready none G2 N ps asg body)∧VSt.H (sE r) N (s45 s) none (zqo r m N s G ps asg body P I J row) (.code body [] F1 (up L1 0 (.loop .busy none G2 N ps asg body)))
def zqm (m:Nat) (N:Nat) (G:VK) (ps:List Tmp) (asg body:Code) (P:List Nat→Bool) (I:VS→Prop) (J:List Nat→LExit→VS→Prop) (f k:Nat) (pre:List Nat) (a:AV) (L':VS):Prop :=
 (a=bv true∧fnd P f k pre=none∧∃ c g X,L'=lsM m (.loop .ready none G N ps asg body) pre.length c g X∧pre.length≤c∧c≤m∧(k<12→f≠0→0<c)∧(∀ q,q<pre.length→g q=zy pre q)∧I X) ∨
 (a=bv false∧∃ row,fnd P f k pre=some row∧∃ c g X e G3,zm e=false∧pre.length≤c∧L'=lsM m (.loop .done (codeOf e) G3 N ps asg body) pre.length c g X∧J row e X)
theorem zbF {l:List Nat} {x q:Nat} (hq:q≤l.length):zy (l++[x]) q=if q=l.length then x else zy l q:=by
 unfold zy
 rw [List.getD_eq_getElem?_getD,List.getD_eq_getElem?_getD]
 by_cases e:q=l.length
 ·rw [if_pos e,e,List.getElem?_append_right (Nat.le_refl _),Nat.sub_self];rfl
 ·rw [if_neg e,List.getElem?_append_left (by omega)]
theorem zo3 {F:VK}:∀ p∈([]:VK),ak F p.1=some p.2∧purgeA 5 p.2=p.2:=fun _ h=>by cases h
theorem zmz {F F1:VK} {t:Nat} {a:AV} (h1:ak F t=some a) (h2:purgeA 5 a=a) (h:∀ p∈F1,ak F p.1=some p.2∧purgeA 5 p.2=p.2):∀ p∈(t,a)::F1,ak F p.1=some p.2∧purgeA 5 p.2=p.2:=fun p hp=>by
 rcases List.mem_cons.1 hp with rfl | hp
 ·exact ⟨h1,h2⟩
 ·exact h p hp
theorem zos (s:List Nat):((s4 s).all (inB (s45 s)))=true:=by
 rw [List.all_eq_true]
 intro x hx
 unfold inB
 rw [List.any_eq_true]
 exact ⟨x,by simp only [List.mem_cons] at hx ⊢;rcases hx with h | h | h | h | h <;> simp [h],Nat.beq_refl x⟩
theorem zpY (s:List Nat):((s4 s).all (inB (s4 s)))=true:=by
 rw [List.all_eq_true]
 intro x hx
 unfold inB
 rw [List.any_eq_true]
 exact ⟨x,hx,Nat.beq_refl x⟩
set_option maxHeartbeats 8000000 in
theorem znR {m:Nat} (hm:m≤12) {N:Nat} {G G1:VK} {ps:List Tmp} {asg body:Code} (s:List Nat) (P:List Nat→Bool) (I:VS→Prop) (J:List Nat→LExit→VS→Prop) (hG:z2w 5 G=G) (hX:∀ X,I X→bk X 5=none∧z1n 5 (rm X 5)=X) (hs:(s.all fun k=>!Nat.beq k 5)=true)
  (hk:z6B N ps [lsV m m] G=some G1)
  (hround:∀ row g X,row.length=m→(∀ i∈row,i<12)→(∀ k,k<m→g k=zy row k)→I X→VSt.H (sE r) N (s45 s) none (zq1 r m N s G ps asg body P I J row) (.code asg [] G1 (lsM m (.loop .ready none G N ps asg body) m m g X))) :
  ∀ f pre k c g X,f+pre.length=m→pre.length≤c→c≤m→(∀ i∈pre,i<12)→k≤12→(∀ q,q<pre.length→g q=zy pre q)→I X →
   VC (sE r) (s4 s) 135 [nv k,.ref 2 0,.p (.fp [.int .i64 (Int.ofNat m)] 0),.ref 1 0,.ref 4 0] (lsM m (.loop .ready none G N ps asg body) pre.length c g X) (zqm m N G ps asg body P I J f k pre):=by
 have hs4:((s4 s).all fun k=>!Nat.beq k 5)=true:=by
  rw [List.all_cons,List.all_cons,List.all_cons,List.all_cons,hs];rfl
 intro f
 induction f with
 | zero =>
  intro pre k c g X hn hc1 hc2 hlt hk12 hg hI
  have hn:pre.length=m:=by omega
  have hc:c=m:=by omega
  subst hc
  have hrd:=hround pre g X hn hlt (fun q hq=>hg q (by omega)) hI
  rw [hn]
  refine z7c (fn:=Tryz.f135) za (zH rfl) (by kernel_rfl) rfl rfl ?_
  cases c with
  | zero =>
   unfold lsM at hrd ⊢
   dsimp only [lsV,lsB] at hrd ⊢
   refine zf za false [] 200 rfl (by repeat (first | exact AllP.n | refine AllP.c (by first | assumption | rfl | omega | exact Nat.le_refl _ | (show 0<_;omega) | (show 1<_;omega) | (show 2<_;omega) | (show 3<_;omega) | (intro _ _;rfl) | (intro q hq;match q,hq with | 0,_=>rfl) | (unfold inR;(try simp only [Int.ofNat_eq_natCast]);omega)) ?_)) ?_
   refine VSt.cond rfl (fun _=>?_) (fun q=>?_)
   rotate_left
   ·have q:(Int.ofNat 0==Int.ofNat 0)=false:=q
    rw [beq_self_eq_true] at q;cases q
   refine zf za false [] 200 rfl (by repeat (first | exact AllP.n | refine AllP.c (by first | assumption | rfl | omega | exact Nat.le_refl _ | (show 0<_;omega) | (show 1<_;omega) | (show 2<_;omega) | (show 3<_;omega) | (intro _ _;rfl) | (intro q hq;match q,hq with | 0,_=>rfl) | (unfold inR;(try simp only [Int.ofNat_eq_natCast]);omega)) ?_)) ?_
   refine VSt.yieldN (s45 s) rfl rfl rfl rfl rfl rfl rfl hk rfl rfl (zos s) (VW.mono hrd ?_)
   refine fun e F1 L1' h=>⟨h.1,h.2.elim fun G2 h2=>⟨G2,h2.1,VW.mono h2.2 ?_⟩⟩
   refine fun e F2 L2 h=>?_
   rcases h with ⟨he,hP,F0,g',X',hv,hg',hI'⟩ | ⟨he,hP,F0,g',X',G3,hv,hJ⟩
   ·subst he
    refine ⟨F0,_,none,G,hv,rfl,?_⟩
    refine zf za false [] 200 rfl (by repeat (first | exact AllP.n | refine AllP.c (by first | assumption | rfl | omega | exact Nat.le_refl _ | (show 0<_;omega) | (show 1<_;omega) | (show 2<_;omega) | (show 3<_;omega) | (intro _ _;rfl) | (intro q hq;match q,hq with | 0,_=>rfl) | (unfold inR;(try simp only [Int.ofNat_eq_natCast]);omega)) ?_)) ?_
    refine ⟨rfl,_,rfl,.inl ⟨rfl,?_,0,g',X',?_,by omega,Nat.le_refl _,fun _ h=>absurd rfl h,fun q hq=>hg' q (by omega),hI'⟩⟩
    ·show (bif P pre then some pre else none)=none
     rw [hP];rfl
    ·rw [hn];rfl
   ·refine ⟨F0,_,none,G3,hv,rfl,?_⟩
    rw [he]
    refine zf za false [] 200 rfl (by repeat (first | exact AllP.n | refine AllP.c (by first | assumption | rfl | omega | exact Nat.le_refl _ | (show 0<_;omega) | (show 1<_;omega) | (show 2<_;omega) | (show 3<_;omega) | (intro _ _;rfl) | (intro q hq;match q,hq with | 0,_=>rfl) | (unfold inR;(try simp only [Int.ofNat_eq_natCast]);omega)) ?_)) ?_
    refine ⟨rfl,_,rfl,.inr ⟨rfl,pre,?_,0,g',X',e,G3,he,by omega,?_,hJ⟩⟩
    ·show (bif P pre then some pre else none)=some pre
     rw [hP];rfl
    ·rw [hn];rfl
  | succ c =>
   unfold lsM at hrd ⊢
   dsimp only [lsV,lsB] at hrd ⊢
   refine zf za false [] 200 rfl (by repeat (first | exact AllP.n | refine AllP.c (by first | assumption | rfl | omega | exact Nat.le_refl _ | (show 0<_;omega) | (show 1<_;omega) | (show 2<_;omega) | (show 3<_;omega) | (intro _ _;rfl) | (intro q hq;match q,hq with | 0,_=>rfl) | (unfold inR;(try simp only [Int.ofNat_eq_natCast]);omega)) ?_)) ?_
   refine VSt.cond rfl (fun _=>?_) (fun q=>?_)
   rotate_left
   ·have q:(Int.ofNat (c+1)==Int.ofNat (c+1))=false:=q
    rw [beq_self_eq_true] at q;cases q
   refine zf za false [] 200 rfl (by repeat (first | exact AllP.n | refine AllP.c (by first | assumption | rfl | omega | exact Nat.le_refl _ | (show 0<_;omega) | (show 1<_;omega) | (show 2<_;omega) | (show 3<_;omega) | (intro _ _;rfl) | (intro q hq;match q,hq with | 0,_=>rfl) | (unfold inR;(try simp only [Int.ofNat_eq_natCast]);omega)) ?_)) ?_
   refine VSt.yieldN (s45 s) rfl rfl rfl rfl rfl rfl rfl hk rfl rfl (zos s) (VW.mono hrd ?_)
   refine fun e F1 L1' h=>⟨h.1,h.2.elim fun G2 h2=>⟨G2,h2.1,VW.mono h2.2 ?_⟩⟩
   refine fun e F2 L2 h=>?_
   rcases h with ⟨he,hP,F0,g',X',hv,hg',hI'⟩ | ⟨he,hP,F0,g',X',G3,hv,hJ⟩
   ·subst he
    refine ⟨F0,_,none,G,hv,rfl,?_⟩
    refine zf za false [] 200 rfl (by repeat (first | exact AllP.n | refine AllP.c (by first | assumption | rfl | omega | exact Nat.le_refl _ | (show 0<_;omega) | (show 1<_;omega) | (show 2<_;omega) | (show 3<_;omega) | (intro _ _;rfl) | (intro q hq;match q,hq with | 0,_=>rfl) | (unfold inR;(try simp only [Int.ofNat_eq_natCast]);omega)) ?_)) ?_
    refine ⟨rfl,_,rfl,.inl ⟨rfl,?_,(c+1),g',X',?_,by omega,Nat.le_refl _,fun _ h=>absurd rfl h,fun q hq=>hg' q (by omega),hI'⟩⟩
    ·show (bif P pre then some pre else none)=none
     rw [hP];rfl
    ·rw [hn];rfl
   ·refine ⟨F0,_,none,G3,hv,rfl,?_⟩
    rw [he]
    refine zf za false [] 200 rfl (by repeat (first | exact AllP.n | refine AllP.c (by first | assumption | rfl | omega | exact Nat.le_refl _ | (show 0<_;omega) | (show 1<_;omega) | (show 2<_;omega) | (show 3<_;omega) | (intro _ _;rfl) | (intro q hq;match q,hq with | 0,_=>rfl) | (unfold inR;(try simp only [Int.ofNat_eq_natCast]);omega)) ?_)) ?_
    refine ⟨rfl,_,rfl,.inr ⟨rfl,pre,?_,(c+1),g',X',e,G3,he,by omega,?_,hJ⟩⟩
    ·show (bif P pre then some pre else none)=some pre
     rw [hP];rfl
    ·rw [hn];rfl
 | succ f ih =>
  intro pre k c g X hn hc1 hc2 hlt hk12 hg hI
  have hnm:pre.length<m:=by omega
  refine z7c (fn:=Tryz.f135) za (zH rfl) (by kernel_rfl) rfl rfl ?_
  unfold lsM
  refine zf za false [9] 200 rfl (by repeat (first | exact AllP.n | refine AllP.c (by first | assumption | rfl | omega | exact Nat.le_refl _ | (show 0<_;omega) | (show 1<_;omega) | (show 2<_;omega) | (show 3<_;omega) | (intro _ _;rfl) | (intro q hq;match q,hq with | 0,_=>rfl) | (unfold inR;(try simp only [Int.ofNat_eq_natCast]);omega)) ?_)) ?_
  refine z5d rfl rfl (z8X (a:=lsV pre.length c) za rfl) ?_
  refine zb (F0:=[(9,lsV pre.length c),(6,.lit false),(0,nv k),(1,.ref 2 0),(2,.p (.fp [.int .i64 (Int.ofNat m)] 0)),(3,.ref 1 0),(4,.ref 4 0)]) (by (refine Vw.sub' (z7d (by repeat (first | exact z0u | refine z0m rfl ?_))))) ?_
  refine z5d rfl rfl (zqc (n:=pre.length) (k:=c) za rfl rfl rfl ?_ (fun h=>by omega)) ?_
  ·cases c <;> rfl
  refine zb (F0:=[(10,nv pre.length),(6,.lit false),(0,nv k),(1,.ref 2 0),(2,.p (.fp [.int .i64 (Int.ofNat m)] 0)),(3,.ref 1 0),(4,.ref 4 0)]) (by (refine Vw.sub' (z7d (by repeat (first | exact z0u | refine z0m rfl ?_))))) ?_
  refine zf za false [] 200 rfl (by repeat (first | exact AllP.n | refine AllP.c (by first | assumption | rfl | omega | exact Nat.le_refl _ | (show 0<_;omega) | (show 1<_;omega) | (show 2<_;omega) | (show 3<_;omega) | (intro _ _;rfl) | (intro q hq;match q,hq with | 0,_=>rfl) | (unfold inR;(try simp only [Int.ofNat_eq_natCast]);omega)) ?_)) ?_
  refine VSt.cond rfl (fun q=>?_) (fun _=>?_)
  ·have q:(Int.ofNat pre.length==Int.ofNat m)=true:=q
   have:=eq_of_beq q
   simp only [Int.ofNat_eq_natCast] at this
   omega
  refine zf za false [] 200 rfl (by repeat (first | exact AllP.n | refine AllP.c (by first | assumption | rfl | omega | exact Nat.le_refl _ | (show 0<_;omega) | (show 1<_;omega) | (show 2<_;omega) | (show 3<_;omega) | (intro _ _;rfl) | (intro q hq;match q,hq with | 0,_=>rfl) | (unfold inR;(try simp only [Int.ofNat_eq_natCast]);omega)) ?_)) ?_
  refine VSt.loop (α :=Nat) (fun i F L=>F=[(7,nv i),(1,.ref 2 0),(2,.p (.fp [.int .i64 (Int.ofNat m)] 0)),(3,.ref 1 0),(4,.ref 4 0)]∧k≤i∧i≤12∧(∀ q,k≤q→q<i→fnd P f (q+1) (pre++[q])=none)∧∃ c g X,L=lsM m (.loop .ready none G N ps asg body) pre.length c g X∧pre.length≤c∧c≤m∧(k<i→0<c)∧(∀ q,q<pre.length→g q=zy pre q)∧I X) (fun i=>12 - i) k (by (refine Vw.sub' (z7d (by repeat (first | exact z0u | refine z0m rfl ?_)))))
   ⟨rfl,Nat.le_refl _,hk12,fun q h1 h2=>by omega,c,g,X,rfl,hc1,hc2,fun h=>by omega,hg,hI⟩ ?_
  rintro i F L ⟨rfl,hki,hi12,hnone,c,g,X,rfl,hc1,hc2,hc3,hg,hI⟩
  unfold lsM
  refine zf za false [] 200 rfl (by repeat (first | exact AllP.n | refine AllP.c (by first | assumption | rfl | omega | exact Nat.le_refl _ | (show 0<_;omega) | (show 1<_;omega) | (show 2<_;omega) | (show 3<_;omega) | (intro _ _;rfl) | (intro q hq;match q,hq with | 0,_=>rfl) | (unfold inR;(try simp only [Int.ofNat_eq_natCast]);omega)) ?_)) ?_
  refine VSt.cond rfl (fun h1=>?_) (fun h1=>?_)
  rotate_left
  ·have h1:i=12:=by have:=nge (n:=12) h1;omega
   subst h1
   refine zf za false [] 200 rfl (by repeat (first | exact AllP.n | refine AllP.c (by first | assumption | rfl | omega | exact Nat.le_refl _ | (show 0<_;omega) | (show 1<_;omega) | (show 2<_;omega) | (show 3<_;omega) | (intro _ _;rfl) | (intro q hq;match q,hq with | 0,_=>rfl) | (unfold inR;(try simp only [Int.ofNat_eq_natCast]);omega)) ?_)) ?_
   refine ⟨rfl,_,rfl,.inl ⟨rfl,zbg _ fun q hq=>hnone (k+q) (by omega) (by omega),c,g,X,rfl,hc1,hc2,fun h _=>hc3 h,hg,hI⟩⟩
  have h1:i<12:=nlt (n:=12) h1
  refine zf za false [21] 200 rfl (by repeat (first | exact AllP.n | refine AllP.c (by first | assumption | rfl | omega | exact Nat.le_refl _ | (show 0<_;omega) | (show 1<_;omega) | (show 2<_;omega) | (show 3<_;omega) | (intro _ _;rfl) | (intro q hq;match q,hq with | 0,_=>rfl) | (unfold inR;(try simp only [Int.ofNat_eq_natCast]);omega)) ?_)) ?_
  have hsn:∀ (c2:Nat) (g2:Nat→Nat),pre.length+1≤c2→(c2=c∨c2=pre.length+1)→(∀ q,q≤pre.length→g2 q=if q=pre.length then i else g q)→pre.length+1≤c2∧c2≤m∧∀ q,q<(pre++[i]).length→g2 q=zy (pre++[i]) q:=fun c2 g2 a1 a2 a3=>by
   refine ⟨a1,by omega,fun q hq=>?_⟩
   rw [List.length_append,List.length_singleton] at hq
   rw [a3 q (by omega),zbF (by omega)]
   by_cases e:q=pre.length
   ·rw [if_pos e,if_pos e]
   ·rw [if_neg e,if_neg e,hg q (by omega)]
  refine z5d rfl rfl (z8X (a:=lsV pre.length c) za rfl) ?_
  refine z5d rfl rfl (z8X (a:=nv i) za rfl) ?_
  refine zmZ za rfl rfl rfl (a:=.p (.lst 3 false 1 fun k=>(([.int .i64 (Int.ofNat i)]:List PV).drop (k*1)).take 1)) rfl ?_
  refine ziX (nb:=false) (ty:=3) (n:=pre.length) (cc:=c) (x:=i) (g:=g) (f:=fun k=>(([.int .i64 (Int.ofNat i)]:List PV).drop (k*1)).take 1) (F1:=[(7,nv i),(1,.ref 2 0),(2,.p (.fp [.int .i64 (Int.ofNat m)] 0)),(3,.ref 1 0),(4,.ref 4 0)]) rfl rfl rfl rfl rfl ?_ rfl hc1 (by omega) (hX X hI).1 (hX X hI).2 hG hs4 (by repeat (first | exact zo3 | refine zmz rfl rfl ?_)) (fun c2 g2 a1 a2 a3=>?_)
  ·cases c <;> rfl
  have hcg:=hsn c2 g2 a1 a2 a3
  have hlen:(pre++[i]).length=pre.length+1:=by rw [List.length_append];rfl
  obtain ⟨c3,rfl⟩:∃ c3,c2=c3+1:=⟨c2 - 1,by omega⟩
  have hlt':∀ q∈pre++[i],q<12:=fun q hq=>by
   rcases List.mem_append.1 hq with hq | hq
   ·exact hlt q hq
   ·rw [List.mem_singleton.1 hq];exact h1
  have hC:=ih (pre++[i]) (i+1) (c3+1) g2 X (by omega) (by omega) hcg.2.1 hlt' (by omega) hcg.2.2 hI
  rw [hlen] at hC
  dsimp only [lsV,lsB]
  refine zf za false [] 200 rfl (by repeat (first | exact AllP.n | refine AllP.c (by first | assumption | rfl | omega | exact Nat.le_refl _ | (show 0<_;omega) | (show 1<_;omega) | (show 2<_;omega) | (show 3<_;omega) | (intro _ _;rfl) | (intro q hq;match q,hq with | 0,_=>rfl) | (unfold inR;(try simp only [Int.ofNat_eq_natCast]);omega)) ?_)) ?_
  refine zb (F0:=[(25,stepG m),(27,nv (i+1)),(7,nv i),(1,.ref 2 0),(2,.p (.fp [.int .i64 (Int.ofNat m)] 0)),(3,.ref 1 0),(4,.ref 4 0)]) (by (refine Vw.sub' (z7d (by repeat (first | exact z0u | refine z0m rfl ?_))))) ?_
  refine VSt.ci (s4 s) rfl rfl rfl rfl rfl rfl rfl (zpY s) hC (fun a L' ha=>?_)
  rcases ha with ⟨rfl,hno,c4,g4,X4,rfl,hd1,hd2,_,hd4,hI4⟩ | ⟨rfl,row,hyes,c4,g4,X4,e,G3,he,hd1,rfl,hJ⟩
  ·rw [hlen] at hd1 hd4
   rw [hlen]
   obtain ⟨c5,rfl⟩:∃ c5,c4=c5+1:=⟨c4 - 1,by omega⟩
   unfold lsM
   dsimp only [lsV,lsB]
   refine zf za false [32] 200 rfl (by repeat (first | exact AllP.n | refine AllP.c (by first | assumption | rfl | omega | exact Nat.le_refl _ | (show 0<_;omega) | (show 1<_;omega) | (show 2<_;omega) | (show 3<_;omega) | (intro _ _;rfl) | (intro q hq;match q,hq with | 0,_=>rfl) | (unfold inR;(try simp only [Int.ofNat_eq_natCast]);omega)) ?_)) ?_
   first | refine zw 31 (nv (pre.length+1)) rfl (AImp.refl _) ?_ | refine z02 31 (nv (pre.length+1)) rfl (AImp.refl _) ?_ | refine VSt.putC 31 (nv (pre.length+1)) rfl (AImp.refl _) ?_
   refine zf za false [33] 200 rfl (by repeat (first | exact AllP.n | refine AllP.c (by first | assumption | rfl | omega | exact Nat.le_refl _ | (show 0<_;omega) | (show 1<_;omega) | (show 2<_;omega) | (show 3<_;omega) | (intro _ _;rfl) | (intro q hq;match q,hq with | 0,_=>rfl) | (unfold inR;(try simp only [Int.ofNat_eq_natCast]);omega)) ?_)) ?_
   first | refine zw 32 (nv pre.length) rfl (z0K z1y) ?_ | refine z02 32 (nv pre.length) rfl (z0K z1y) ?_ | refine VSt.putC 32 (nv pre.length) rfl (z0K z1y) ?_
   refine zf za false [] 200 rfl (by repeat (first | exact AllP.n | refine AllP.c (by first | assumption | rfl | omega | exact Nat.le_refl _ | (show 0<_;omega) | (show 1<_;omega) | (show 2<_;omega) | (show 3<_;omega) | (intro _ _;rfl) | (intro q hq;match q,hq with | 0,_=>rfl) | (unfold inR;(try simp only [Int.ofNat_eq_natCast]);omega)) ?_)) ?_
   refine VSt.cond rfl (fun q=>absurd q (by decide)) (fun _=>?_)
   refine zf za false [] 200 rfl (by repeat (first | exact AllP.n | refine AllP.c (by first | assumption | rfl | omega | exact Nat.le_refl _ | (show 0<_;omega) | (show 1<_;omega) | (show 2<_;omega) | (show 3<_;omega) | (intro _ _;rfl) | (intro q hq;match q,hq with | 0,_=>rfl) | (unfold inR;(try simp only [Int.ofNat_eq_natCast]);omega)) ?_)) ?_
   refine ⟨i+1,_,_,(by (refine Vw.sub' (z7d (by repeat (first | exact z0u | refine z0m rfl ?_))))),⟨rfl,by omega,h1,fun q h2 h3=>?_,c5+1,g4,X4,rfl,by omega,hd2,fun _=>Nat.succ_pos _,fun q hq=>?_,hI4⟩,by omega⟩
   ·by_cases e:q=i
    ·rw [e];exact hno
    ·exact hnone q h2 (by omega)
   ·rw [hd4 q (by omega),zbF (by omega),if_neg (by omega)]
  ·rw [hlen] at hd1
   rw [hlen]
   have hf:fnd P (f+1) k pre=some row:=by
    refine zbf (12 - k) (i - k) (by omega) (fun q hq=>hnone (k+q) (by omega) (by omega)) ?_
    show fnd P f (k+(i - k)+1) (pre++[k+(i - k)])=_
    rw [show k+(i - k)=i by omega];exact hyes
   obtain ⟨c5,rfl⟩:∃ c5,c4=c5+1:=⟨c4 - 1,by omega⟩
   unfold lsM
   dsimp only [lsV,lsB]
   refine zf za false [32] 200 rfl (by repeat (first | exact AllP.n | refine AllP.c (by first | assumption | rfl | omega | exact Nat.le_refl _ | (show 0<_;omega) | (show 1<_;omega) | (show 2<_;omega) | (show 3<_;omega) | (intro _ _;rfl) | (intro q hq;match q,hq with | 0,_=>rfl) | (unfold inR;(try simp only [Int.ofNat_eq_natCast]);omega)) ?_)) ?_
   first | refine zw 31 (nv (pre.length+1)) rfl (AImp.refl _) ?_ | refine z02 31 (nv (pre.length+1)) rfl (AImp.refl _) ?_ | refine VSt.putC 31 (nv (pre.length+1)) rfl (AImp.refl _) ?_
   refine zf za false [33] 200 rfl (by repeat (first | exact AllP.n | refine AllP.c (by first | assumption | rfl | omega | exact Nat.le_refl _ | (show 0<_;omega) | (show 1<_;omega) | (show 2<_;omega) | (show 3<_;omega) | (intro _ _;rfl) | (intro q hq;match q,hq with | 0,_=>rfl) | (unfold inR;(try simp only [Int.ofNat_eq_natCast]);omega)) ?_)) ?_
   first | refine zw 32 (nv pre.length) rfl (z0K z1y) ?_ | refine z02 32 (nv pre.length) rfl (z0K z1y) ?_ | refine VSt.putC 32 (nv pre.length) rfl (z0K z1y) ?_
   refine zf za false [] 200 rfl (by repeat (first | exact AllP.n | refine AllP.c (by first | assumption | rfl | omega | exact Nat.le_refl _ | (show 0<_;omega) | (show 1<_;omega) | (show 2<_;omega) | (show 3<_;omega) | (intro _ _;rfl) | (intro q hq;match q,hq with | 0,_=>rfl) | (unfold inR;(try simp only [Int.ofNat_eq_natCast]);omega)) ?_)) ?_
   refine VSt.cond rfl (fun _=>?_) (fun q=>absurd q (by decide))
   refine zf za false [] 200 rfl (by repeat (first | exact AllP.n | refine AllP.c (by first | assumption | rfl | omega | exact Nat.le_refl _ | (show 0<_;omega) | (show 1<_;omega) | (show 2<_;omega) | (show 3<_;omega) | (intro _ _;rfl) | (intro q hq;match q,hq with | 0,_=>rfl) | (unfold inR;(try simp only [Int.ofNat_eq_natCast]);omega)) ?_)) ?_
   exact ⟨rfl,_,rfl,.inr ⟨rfl,row,hf,c5+1,g4,X4,e,G3,he,by omega,rfl,hJ⟩⟩
end Go.Proofs.YtdpipdniklognaaGreat
/- Walks: the iterator of lists of holes; Conflict. -/
set_option maxRecDepth 100000
namespace Go.Proofs.YtdpipdniklognaaGreat
variable {r:Rm}
def zqn (m:Nat) (N:Nat) (G:VK) (ps:List Tmp) (asg body:Code) (P:List Nat→Bool) (I:VS→Prop) (J:List Nat→LExit→VS→Prop) (L':VS):Prop :=
 (fnd P m 0 []=none∧∃ c g X,L'=lsM m (.loop .ready none G N ps asg body) 0 c g X∧I X) ∨
 (∃ row,fnd P m 0 []=some row∧∃ c g X e G3,zm e=false∧L'=lsM m (.loop .done (codeOf e) G3 N ps asg body) 0 c g X∧J row e X)
set_option maxHeartbeats 4000000 in
theorem zhx {m:Nat} (hm:m≤12) {N:Nat} {G G1:VK} {ps:List Tmp} {asg body:Code} {X:VS} (s:List Nat) (P:List Nat→Bool) (I:VS→Prop) (J:List Nat→LExit→VS→Prop) (hG:z2w 5 G=G) (hX:∀ X,I X→bk X 5=none∧z1n 5 (rm X 5)=X) (hs:(s.all fun k=>!Nat.beq k 5)=true) (hX2:∀ i,i<10→bk X i=none) (hI:I X)
  (hk:z6B N ps [lsV m m] G=some G1)
  (hround:∀ row g X,row.length=m→(∀ i∈row,i<12)→(∀ k,k<m→g k=zy row k)→I X→VSt.H (sE r) N (s45 s) none (zq1 r m N s G ps asg body P I J row) (.code asg [] G1 (lsM m (.loop .ready none G N ps asg body) m m g X))) :
  VC (sE r) (0::s) 134 [.yld 0,.p (.fp [.int .i64 (Int.ofNat m)] 0)] ((0,.loop .ready none G N ps asg body)::X) (fun _ L'=>zqn m N G ps asg body P I J L'):=by
 refine z7c (fn:=Tryz.f134) za (zH rfl) (by kernel_rfl) rfl rfl ?_
 refine zf za false [2] 200 rfl trivial ?_
 refine zf2 1 (hX2 1 (by decide)) rfl rfl rfl rfl rfl ?_
 refine zf za false [3] 200 rfl AllP.n ?_
 refine z3p 2 za (hX2 2 (by decide)) rfl rfl rfl rfl ?_
 refine zf za false [4] 200 rfl AllP.n ?_
 refine z3p 4 za (hX2 4 (by decide)) rfl rfl rfl rfl ?_
 refine zf za false [] 200 rfl AllP.n ?_
 refine zb (Vw.trans (Vw.perm (L':=(0,.loop .ready none G N ps asg body)::(1,.cells [.yld 0] 155)::(2,.cells [.p (.lst 0 true 0 fun _=>[])] 37)::(4,.cells [stepG m] 119)::X) fun i=>?_) (Vw.imp (L':=lsM m (.loop .ready none G N ps asg body) 0 0 (fun _=>0) X) ⟨rfl,BImp.refl _,rfl,BImp.refl _,rfl,BImp.cell1 AImp.nil,rfl,BImp.refl _,LImp.refl _⟩)) ?_
 ·match i with
  | 0=>rfl
  | 1=>rfl
  | 2=>rfl
  | 3=>rfl
  | 4=>rfl
  | n+5=>rfl
 refine VSt.ci (s4 s) rfl rfl rfl rfl rfl rfl rfl (zpY s) (znR hm s P I J hG hX hs hk hround m [] 0 0 (fun _=>0) X rfl (Nat.le_refl _) (Nat.zero_le _) (fun i hi=>by cases hi) (by decide) (fun q hq=>absurd hq (Nat.not_lt_zero q)) hI) (fun a L' ha=>?_)
 rcases ha with ⟨rfl,hno,c,g1,X1,rfl,_,_,_,_,hI1⟩ | ⟨rfl,row,hyes,c,g1,X1,e,G3,he,_,rfl,hJ⟩
 ·unfold lsM
  refine zf za false [] 200 rfl AllP.n ?_
  exact ⟨rfl,_,rfl,.inl ⟨hno,c,g1,X1,rfl,hI1⟩⟩
 ·unfold lsM
  refine zf za false [] 200 rfl AllP.n ?_
  exact ⟨rfl,_,rfl,.inr ⟨row,hyes,c,g1,X1,e,G3,he,rfl,hJ⟩⟩
section
variable {E:Env} {N:Nat} {st:List Nat} {rd:Option Nat} {Q:zN} {F:VK} {L:VS}
theorem ziV {ops:Array Oper} {o:Oper} {rest:List Oper} {K:List KI} {F0:VK} {L0:VS} {c:Call} {f:Operand} {g:FuncId} {first cap args:List AV} {n sz:Nat} {fz:Nat→List PV} {t:TypeId} (hw:Vw E [] F L F0 L0) (hg:vgl ops F o.guard=some true) (hd:zJ o.dst N=true)
  (hop:o.op = .call c) (hc:c.callee = .value f) (hf:av F0 f=some (.fn g first cap)) (ha:avs F0 c.args.toList=some args) (hon:z06 (olds []) (first++(args++cap))=true) (hC:VC E [] g (first++(args++cap)) [] (fun a L'=>a = .acc true 0 sz n∧L'=[(0,.acc n sz fz t)])) (hpl:∀ k,k<n→(fz k).all PV.plain=true)
  (h:VSt.H E N st rd Q (.ops ops rest K (zM o.dst (.p (.lst t (Nat.beq n 0) n fz)) F) L)):VSt.H E N st rd Q (.ops ops (o::rest) K F L):=by
 intro T S Z j h1 h2 h3 h4
 obtain ⟨m,T',S',Z',k1,k3,k4,k5,k6,k7,_⟩:=zjD hw hC hpl (z1v hg) hd hop hc hf ha hon h1 h2 h3 h4
 obtain ⟨n2,r,q1,F2,L2,Z2,j2,q2,q3⟩:=h T' S' Z' j k3 k4 k5 k7
 refine ⟨m+n2,r,fun k hk=>?_,F2,L2,Z2,j2,⟨q2.n,q2.sr,q2.fr,k6.trans q2.ex,q2.low,q2.stay⟩,q3⟩
 show ob (zx E _ _ ops o T S) _=_
 rw [k1 k (by omega)]
 exact q1 k (by omega)
end
theorem zin {l:List Int} (hn:l.length<1000000) (h0:0<l.length):VC (sE r) [] 87 [.p (z7h false l)] [] (fun a L'=>a = .acc true 0 1 l.length∧L'=[(0,.acc l.length 1 (fL l) 3)]):=by
 refine z7c (fn:=Tryz.f87) za (zH rfl) (by kernel_rfl) rfl rfl ?_
 refine VSt.go za false [] 200 rfl AllP.n ?_
 refine VSt.cond rfl (fun h=>absurd h (by decide)) (fun h=>?_)
 refine VSt.go za false [2] 200 rfl (AllP.c ‹_› (AllP.c (by omega) (AllP.c (fun _ _=>rfl) (AllP.c rfl (AllP.c rfl (AllP.c (by omega) (AllP.c (by omega) AllP.n))))))) ?_
 refine zb (z1a (ps:=[(0,1)]) (F0:=[(7,.acc true 0 1 l.length)]) (L0:=[(0,.acc l.length 1 (fL l) 3)]) ⟨rfl,rfl,z0X rfl rfl (z6G h0 (Nat.zero_add _) (Nat.zero_add _)) zu,_,rfl,⟨rfl,z5f (Nat.zero_add _) (fun q _=>rfl),trivial⟩⟩) ?_
 refine VSt.go za false [] 200 rfl AllP.n ?_
 exact ⟨rfl,_,rfl,rfl,rfl⟩
def cfX (h:Hp) (p:Int) (a:PV):VS:=[(10,.cells [.p a] 37),(11,.cells [iv 0] 28),(12,.cells [.map 13] 108),(13,.mapA none (zcv (z3R h p)) [])]
def z3P (h:Hp) (p:Int) (l:List Nat):Bool:=zV (z3R h p) (zT l)
def cfF (P:List Nat→Bool):Nat→Option (List Nat)
 | 0=>none
 | k+1=>match cfF P k with
  | some row=>some row
  | none=>fnd P k 0 []
noncomputable def cfE (h:Hp) (p:Int):Int:=if ppE h p=0 then (match cfF (z3P h p) 13 with | some _=>0 | none=>54) else ppE h p
noncomputable def cfV (h:Hp) (p:Int):List Int:=if ppE h p=0 then (match cfF (z3P h p) 13 with | some row=>row.map Int.ofNat | none=>[]) else []
set_option maxHeartbeats 8000000 in
theorem zdL {h:Hp} {p:Int} (hz:SzH h):VP (sE r) 27 [.agg ((eHp h).map .p),iv p] (.tup [.p (eL (cfV h p)),iv (cfE h p)]):=by
 have hc:=z9p (r:=r) (p:=p) hz
 rcases z7o h p with ⟨hO,e⟩ | e
 rotate_left
 ·rw [show cfE h p=ppE h p from if_neg (zfq e),show cfV h p=[] from if_neg (zfq e)]
  refine VP.of (fn:=Tryz.f27) za (zH rfl) (by kernel_rfl) rfl rfl rfl ?_
  refine VSt.go za false [] 200 rfl AllP.n ?_
  refine zb (z00 0 (eHp h) rfl rfl) ?_
  refine VSt.go za false [] 200 rfl AllP.n ?_
  refine VSt.pc rfl rfl rfl rfl rfl rfl rfl rfl (hc) ?_
  refine VSt.go za false [] 200 rfl AllP.n ?_
  refine VSt.cond rfl (fun _=>?_) (fun q=>absurd (q.symm.trans e) (by decide))
  refine VSt.go za false [] 200 rfl AllP.n ?_
  exact ⟨rfl,_,rfl,rfl,AImp.tup ⟨AImp.nil,AImp.refl _,trivial⟩⟩
 rw [e] at hc
 refine VP.of (fn:=Tryz.f27) za (zH rfl) (by kernel_rfl) rfl rfl rfl ?_
 refine VSt.go za false [] 200 rfl AllP.n ?_
 refine zb (z00 0 (eHp h) rfl rfl) ?_
 refine VSt.go za false [] 200 rfl AllP.n ?_
 refine VSt.pc rfl rfl rfl rfl rfl rfl rfl rfl (hc) ?_
 refine VSt.go za false [] 200 rfl AllP.n ?_
 refine VSt.cond rfl (fun q=>absurd q (by decide)) (fun _=>?_)
 refine VSt.go za false [] 200 rfl AllP.n ?_
 refine VSt.cc [] rfl rfl rfl rfl rfl rfl rfl rfl rfl rfl rfl (zcj (h:=h) (p:=p) hz hO) ?_
 rintro a L' ⟨rfl,rfl⟩
 refine VSt.go za false [] 200 rfl AllP.n ?_
 refine z05 (Vw.kp [4,5,7,19] [(10,1),(11,2),(12,4),(13,3)] rfl) ?_
 refine z09 (ti:=19) 13 [4,5,7] (fun _=>[]) (fun _=>[(10,.cells [.p (.lst 0 true 0 fun _=>[])] 37),(11,.cells [iv 0] 28),(12,.cells [.map 13] 108),(13,.mapA none (zcv (z3R h p)) [])]) (fun k=>cfF (z3P h p) k=none) rfl rfl z0l (LImp.refl _) rfl (fun k hk hp=>?_)
 refine VSt.go za false [] 200 rfl AllP.n ?_
 refine VSt.cond rfl (fun g2=>?_) (fun g2=>?_)
 rotate_left
 ·have g2:k=13:=by have:=nge (n:=13) g2;omega
  subst g2
  rw [show cfE h p=54 by unfold cfE;rw [if_pos e,hp],show cfV h p=[] by unfold cfV;rw [if_pos e,hp]]
  refine VSt.go za false [] 200 rfl AllP.n ?_
  exact ⟨rfl,_,rfl,rfl,AImp.tup ⟨AImp.nil,AImp.refl _,trivial⟩⟩
 have g2:k<13:=nlt (n:=13) g2
 refine VSt.go za false [] 200 rfl AllP.n ?_
 refine VSt.pc rfl rfl rfl rfl rfl rfl rfl rfl ((zjT (m:=k))) ?_
 refine VSt.go za false [] 200 rfl AllP.n ?_
 refine z05 (Vw.kp [4,5,7,19,23] [(10,10),(11,11),(12,12),(13,13)] rfl) ?_
 refine z4N 0 [0,10,11,12,13] rfl rfl rfl rfl rfl
  (zhx (r:=r) (m:=k) (G1:=[(24,lsV k k),(4,.ref 10 0),(5,.ref 11 0),(7,.ref 12 0),(19,nv k),(23,.fn 134 [] [.p (.fp [.int .i64 (Int.ofNat k)] 0)])]) (by omega) [10,11,12,13] (z3P h p) (fun X=>X=cfX h p (.lst 0 true 0 fun _=>[])) (fun row e X=>e = .ret∧∃ a,X=cfX h p a∧a=eL (row.map Int.ofNat)) rfl (by rintro _ rfl;exact ⟨rfl,rfl⟩) rfl (fun i hi=>by
   show bk [(10,_),(11,_),(12,_),(13,_)] i=none
   rw [z08,if_neg (by omega),z08,if_neg (by omega),z08,if_neg (by omega),z08,if_neg (by omega)];rfl) rfl (by cases k <;> rfl) ?_) (fun a L' ha=>?_)
 ·rintro row g X hlen hrow hg rfl
  have h12:zT row<9223372036854775808:=Nat.lt_of_lt_of_le (z6f row hrow) (by decide)
  have hM:∀ w∈z3R h p,w<9223372036854775808:=fun w hw=>by
   obtain ⟨x,_,rfl⟩:=List.mem_map.1 hw
   exact Nat.lt_of_lt_of_le (z6Z _ 12) (by decide)
  cases k with
  | zero =>
   cases List.length_eq_zero_iff.1 hlen
   refine zf za false [] 200 rfl AllP.n ?_
   refine ⟨rfl,_,rfl,?_⟩
   refine zf za false [] 200 rfl AllP.n ?_
   refine z0E rfl rfl rfl rfl rfl rfl rfl rfl ((VP.imp (zgM (b:=true) (l:=[]) (by decide) (fun k hk=>by cases hk)) ⟨AImp.lst fun k hk=>absurd hk (Nat.not_lt_zero k),trivial⟩)) ?_
   refine zf za false [] 200 rfl AllP.n ?_
   refine zf1 rfl rfl (PureR.call rfl rfl rfl (fun S Z j vs hS hv=>z7A hS hv rfl h12 hM)) ?_
   refine zf za false [] 200 rfl AllP.n ?_
   refine VSt.cond rfl (fun h1=>?_) (fun h1=>?_)
   ·have h1:z3P h p []=true:=h1
    refine zf za false [] 200 rfl AllP.n ?_
    refine VSt.pc rfl rfl rfl rfl rfl rfl rfl rfl ((VP.imp (zim (l:=[]) (by decide)) ⟨AImp.nil,trivial⟩)) ?_
    refine zf za false [] 200 rfl AllP.n ?_
    exact .inr ⟨rfl,h1,[],g,_,_,Vw.sub' (z7d z0u),rfl,_,rfl,rfl⟩
   ·have h1:z3P h p []=false:=h1
    refine zf za false [] 200 rfl AllP.n ?_
    exact .inl ⟨rfl,h1,[],g,_,Vw.sub' (z7d z0u),hg,rfl⟩
  | succ k =>
   have himp:AImp (.p (.lst 3 false (k+1) fun q=>[.int .i64 (Int.ofNat (g q))])) (.p (zQ false row)):=by
    unfold zQ z7h
    rw [List.length_map,hlen]
    exact AImp.lst fun q hq=>by rw [z0H,hg q hq]
   refine zf za false [] 200 rfl AllP.n ?_
   refine ⟨rfl,_,rfl,?_⟩
   refine zf za false [] 200 rfl AllP.n ?_
   refine z9U (F0:=[(26,.p (.lst 3 false (k+1) fun q=>[.int .i64 (Int.ofNat (g q))]))]) (zaU (i:=5) rfl (zep rfl (Nat.le_refl _) (Nat.le_refl _) z7w)) rfl rfl rfl rfl rfl rfl rfl
    (VP.imp (zgM (b:=false) (l:=row) (by omega) hrow) ⟨himp,trivial⟩) rfl ?_
   refine zf za false [] 200 rfl AllP.n ?_
   refine zf1 rfl rfl (PureR.call rfl rfl rfl (fun S Z j vs hS hv=>z7A hS hv rfl h12 hM)) ?_
   refine zf za false [] 200 rfl AllP.n ?_
   refine VSt.cond rfl (fun h1=>?_) (fun h1=>?_)
   ·have h1:z3P h p row=true:=h1
    refine zf za false [] 200 rfl AllP.n ?_
    have hml:(row.map Int.ofNat).length=k+1:=by rw [List.length_map,hlen]
    refine ziV (F0:=[(29,.p (.lst 3 false (k+1) fun q=>[.int .i64 (Int.ofNat (g q))]))]) (zaU (i:=5) rfl (zep rfl (Nat.le_refl _) (Nat.le_refl _) z7w)) rfl rfl rfl rfl rfl rfl rfl
     (fun S Z j vs h1 h2 h3=>zin (l:=row.map Int.ofNat) (by omega) (by omega) S Z j vs h1 ((show AImps [.p (.lst 3 false (k+1) fun q=>[.int .i64 (Int.ofNat (g q))])] [.p (zQ false row)] from ⟨himp,trivial⟩).vrs h2) h3)
     (fun k hk=>rfl) ?_
    refine zf za false [] 200 rfl AllP.n ?_
    exact .inr ⟨rfl,h1,[],g,_,_,Vw.sub' (z7d z0u),rfl,_,rfl,AV.p.inj (z8W (l:=row.map Int.ofNat) rfl)⟩
   ·have h1:z3P h p row=false:=h1
    refine zf za false [] 200 rfl AllP.n ?_
    exact .inl ⟨rfl,h1,[],g,_,Vw.sub' (z7d z0u),hg,rfl⟩
 ·rcases ha with ⟨hno,c,g,X,rfl,rfl⟩ | ⟨row,hyes,c,g,X,e2,G3,he,rfl,rfl,a,rfl,rfl⟩
  ·have hnx:cfF (z3P h p) (k+1)=none:=by
    show (match cfF (z3P h p) k with | some row=>some row | none=>fnd (z3P h p) k 0 [])=none
    rw [hp];exact hno
   cases c with
   | zero =>
    refine ⟨_,_,_,.normal,_,_,_,_,rfl,rfl,rfl,?_⟩
    refine zf za false [] 200 rfl (AllP.c (by unfold inR;(try simp only [Int.ofNat_eq_natCast]);omega) AllP.n) ?_
    refine ⟨g2,?_,hnx⟩
    refine z1a (ps:=[(10,10),(11,11),(12,12),(13,13)]) ⟨rfl,rfl,(by repeat (first | exact zu | refine zk rfl rfl rfl ?_)),_,rfl,(⟨rfl,BImp.refl _,rfl,BImp.refl _,rfl,BImp.refl _,rfl,BImp.refl _,trivial⟩)⟩
   | succ c =>
    refine ⟨_,_,_,.normal,_,_,_,_,rfl,rfl,rfl,?_⟩
    refine zf za false [] 200 rfl (AllP.c (by unfold inR;(try simp only [Int.ofNat_eq_natCast]);omega) AllP.n) ?_
    refine ⟨g2,?_,hnx⟩
    refine z1a (ps:=[(10,10),(11,11),(12,12),(13,13)]) ⟨rfl,rfl,(by repeat (first | exact zu | refine zk rfl rfl rfl ?_)),_,rfl,(⟨rfl,BImp.refl _,rfl,BImp.refl _,rfl,BImp.refl _,rfl,BImp.refl _,trivial⟩)⟩
  ·have hcf:cfF (z3P h p) 13=some row:=by
    have key:∀ d,cfF (z3P h p) (k+1+d)=some row:=fun d=>by
     induction d with
     | zero =>
      show (match cfF (z3P h p) k with | some row=>some row | none=>fnd (z3P h p) k 0 [])=some row
      rw [hp];exact hyes
     | succ d ih =>
      show (match cfF (z3P h p) (k+1+d) with | some row=>some row | none=>fnd (z3P h p) (k+1+d) 0 [])=some row
      rw [ih]
    have:=key (12 - k)
    rwa [show k+1+(12 - k)=13 by omega] at this
   have e1:cfE h p=0:=by unfold cfE;rw [if_pos e,hcf]
   have e2:cfV h p=row.map Int.ofNat:=by unfold cfV;rw [if_pos e,hcf]
   rw [e1,e2]
   cases c with
   | zero =>
    refine ⟨_,_,_,.ret,_,_,_,_,rfl,rfl,rfl,?_⟩
    refine zf za false [] 200 rfl AllP.n ?_
    exact ⟨rfl,_,rfl,rfl,AImp.refl _⟩
   | succ c =>
    refine ⟨_,_,_,.ret,_,_,_,_,rfl,rfl,rfl,?_⟩
    refine zf za false [] 200 rfl AllP.n ?_
    exact ⟨rfl,_,rfl,rfl,AImp.refl _⟩
end Go.Proofs.YtdpipdniklognaaGreat
/- Plain: the first list of holes of those that meet all sets; the same by sets. -/
set_option maxRecDepth 100000
namespace Go.Proofs.YtdpipdniklognaaGreat
def Inc:Nat→List Nat→Prop
 | _,[]=>True
 | k,a::l=>k≤a∧a<12∧Inc (a+1) l
def z9c:List Nat→List Nat→Bool
 | a::l,b::m=>bif a==b then z9c l m else decide (a<b)
 | _,_=>false
theorem z8V {a:Nat} {l m:List Nat}:z9c (a::l) (a::m)=z9c l m:=by
 show (bif a==a then _ else _)=_
 rw [beq_self_eq_true];rfl
theorem z5S {a b:Nat} {l m:List Nat} (h:a≠b):z9c (a::l) (b::m)=decide (a<b):=by
 show (bif a==b then _ else _)=_
 rw [show (a==b)=false by rw [←Bool.not_eq_true,beq_iff_eq];exact h];rfl
theorem z9k {α : Type} {g:Nat→Option α}:∀ c k,(scan g c k=none∧∀ i,i<c→g (k+i)=none)∨∃ d x,d<c∧(∀ i,i<d→g (k+i)=none)∧g (k+d)=some x∧scan g c k=some x
 | 0,k=>.inl ⟨rfl,fun i hi=>absurd hi (Nat.not_lt_zero i)⟩
 | c+1,k=>by
  cases h:g k with
  | some x=>exact .inr ⟨0,x,Nat.succ_pos _,fun i hi=>absurd hi (Nat.not_lt_zero i),h,by show (match g k with | some x=>some x | none=>scan g c (k+1))=_;rw [h]⟩
  | none =>
   have e:scan g (c+1) k=scan g c (k+1):=by show (match g k with | some x=>some x | none=>scan g c (k+1))=_;rw [h]
   rw [e]
   have hst:∀ d,(∀ i,i<d→g (k+1+i)=none)→∀ i,i<d+1→g (k+i)=none:=fun d hd i hi=>by
    cases i with
    | zero=>exact h
    | succ i=>rw [show k+(i+1)=k+1+i by omega];exact hd i (by omega)
   rcases z9k (g:=g) c (k+1) with ⟨h1,h2⟩ | ⟨d,x,hd,h1,h2,h3⟩
   ·exact .inl ⟨h1,hst c h2⟩
   ·exact .inr ⟨d+1,x,by omega,hst d h1,by rw [show k+(d+1)=k+1+d by omega];exact h2,h3⟩
theorem z7C {P:List Nat→Bool}:∀ f k pre,
  (fnd P f k pre=none∧∀ l,Inc k l→l.length=f→P (pre++l)=false) ∨
  (∃ l,fnd P f k pre=some (pre++l)∧Inc k l∧l.length=f∧P (pre++l)=true∧∀ m,Inc k m→m.length=f→P (pre++m)=true→z9c m l=false)
 | 0,k,pre=>by
  have e:fnd P 0 k pre=bif P pre then some pre else none:=rfl
  rw [e]
  cases h:P pre with
  | false =>
   refine .inl ⟨rfl,fun l _ hl=>?_⟩
   rw [List.length_eq_zero_iff.1 hl,List.append_nil,h]
  | true =>
   refine .inr ⟨[],by rw [List.append_nil];rfl,trivial,rfl,by rw [List.append_nil,h],fun m _ hm _=>?_⟩
   rw [List.length_eq_zero_iff.1 hm];rfl
 | f+1,k,pre=>by
  have e:fnd P (f+1) k pre=scan (fun i=>fnd P f (i+1) (pre++[i])) (12 - k) k:=rfl
  rw [e]
  have hap:∀ (a:Nat) (t:List Nat),pre++a::t=pre++[a]++t:=fun a t=>by rw [List.append_assoc];rfl
  have hno:∀ a t,fnd P f (a+1) (pre++[a])=none→Inc (a+1) t→t.length=f→P (pre++a::t)=false:=fun a t h0 hi hl=>by
   rcases z7C (P:=P) f (a+1) (pre++[a]) with ⟨_,h2⟩ | ⟨l,h1,_⟩
   ·rw [hap];exact h2 t hi hl
   ·rw [h0] at h1;cases h1
  rcases z9k (g:=fun i=>fnd P f (i+1) (pre++[i])) (12 - k) k with ⟨h1,h2⟩ | ⟨d,x,hd,h1,h2,h3⟩
  ·refine .inl ⟨h1,fun l hi hl=>?_⟩
   cases l with
   | nil=>cases hl
   | cons a t =>
    obtain ⟨g1,g2,g3⟩:=hi
    have:=h2 (a - k) (by omega)
    rw [show k+(a - k)=a by omega] at this
    exact hno a t this g3 (Nat.succ.inj hl)
  ·rcases z7C (P:=P) f (k+d+1) (pre++[k+d]) with ⟨q1,_⟩ | ⟨t,q1,q2,q3,q4,q5⟩
   ·have h2:fnd P f (k+d+1) (pre++[k+d])=some x:=h2
    rw [q1] at h2;cases h2
   ·have h2:fnd P f (k+d+1) (pre++[k+d])=some x:=h2
    rw [q1] at h2
    refine .inr ⟨(k+d)::t,(h3.trans h2.symm).trans (congrArg some (hap _ _).symm),⟨by omega,by omega,q2⟩,by rw [List.length_cons,q3],by rw [hap];exact q4,fun m hm hl hP=>?_⟩
    cases m with
    | nil=>cases hl
    | cons b u =>
     obtain ⟨g1,g2,g3⟩:=hm
     have hlu:u.length=f:=Nat.succ.inj hl
     by_cases c1:b=k+d
     ·subst c1
      rw [z8V]
      exact q5 u g3 hlu (by rw [←hap];exact hP)
     ·rw [z5S c1]
      refine decide_eq_false fun c2=>?_
      have:=h1 (b - k) (by omega)
      rw [show k+(b - k)=b by omega] at this
      rw [hno b u this g3 hlu] at hP;cases hP
def z8T (a b:List Nat):Bool:=decide (a.length<b.length)||(decide (a.length=b.length)&&z9c a b)
theorem bet_iff {a b:List Nat}:z8T a b=true ↔ a.length<b.length∨(a.length=b.length∧z9c a b=true):=by
 unfold z8T
 rw [Bool.or_eq_true,Bool.and_eq_true,decide_eq_true_iff,decide_eq_true_iff]
theorem zcr:∀ {a b c:List Nat},z9c a b=true→z9c b c=true→z9c a c=true
 | [],_,_,h,_=>by cases h
 | _::_,[],_,h,_=>by cases h
 | _::_,_::_,[],_,h=>by cases h
 | x::a,y::b,z::c,h1,h2=>by
  by_cases e1:x=y
  ·subst e1
   rw [z8V] at h1
   by_cases e2:x=z
   ·subst e2
    rw [z8V] at h2 ⊢
    exact zcr h1 h2
   ·rw [z5S e2] at h2 ⊢;exact h2
  ·rw [z5S e1] at h1
   have h1:=of_decide_eq_true h1
   by_cases e2:y=z
   ·subst e2
    rw [z5S e1];exact decide_eq_true h1
   ·rw [z5S e2] at h2
    have h2:=of_decide_eq_true h2
    rw [z5S (by omega)];exact decide_eq_true (by omega)
theorem ziR:∀ {a b:List Nat},a.length=b.length→z9c a b=false→z9c b a=false→a=b
 | [],[],_,_,_=>rfl
 | [],_::_,h,_,_=>by cases h
 | _::_,[],h,_,_=>by cases h
 | x::a,y::b,h,h1,h2=>by
  by_cases e:x=y
  ·subst e
   rw [z8V] at h1 h2
   rw [ziR (Nat.succ.inj h) h1 h2]
  ·rw [z5S e] at h1
   rw [z5S (Ne.symm e)] at h2
   have h1:=of_decide_eq_false h1
   have h2:=of_decide_eq_false h2
   omega
theorem ziJ {a b c:List Nat} (h1:z8T a b=true) (h2:z8T b c=true):z8T a c=true:=by
 rw [bet_iff] at h1 h2 ⊢
 rcases h1 with h1 | ⟨h1,h3⟩
 ·rcases h2 with h2 | ⟨h2,_⟩ <;> exact .inl (by omega)
 ·rcases h2 with h2 | ⟨h2,h4⟩
  ·exact .inl (by omega)
  ·exact .inr ⟨by omega,zcr h3 h4⟩
theorem zmR {a b:List Nat} (h1:z8T a b=false) (h2:z8T b a=false):a=b:=by
 have n1:¬ (a.length<b.length∨(a.length=b.length∧z9c a b=true)):=fun h=>by rw [bet_iff.2 h] at h1;cases h1
 have n2:¬ (b.length<a.length∨(b.length=a.length∧z9c b a=true)):=fun h=>by rw [bet_iff.2 h] at h2;cases h2
 have e:a.length=b.length:=by omega
 refine ziR e ?_ ?_
 ·rw [←Bool.not_eq_true];exact fun h=>n1 (.inr ⟨e,h⟩)
 ·rw [←Bool.not_eq_true];exact fun h=>n2 (.inr ⟨e.symm,h⟩)
theorem zeV {a b:List Nat} (h1:¬ a.length<b.length) (h2:a.length=b.length→z9c a b=false):z8T a b=false:=by
 rw [←Bool.not_eq_true,bet_iff]
 rintro (h | ⟨h,g⟩)
 ·exact h1 h
 ·rw [h2 h] at g;cases g
theorem zdB {P:List Nat→Bool}:∀ k,cfF P k=none→∀ l,Inc 0 l→l.length<k→P l=false
 | 0,_,l,_,h=>absurd h (Nat.not_lt_zero _)
 | k+1,h,l,hi,hl=>by
  have h:(match cfF P k with | some row=>some row | none=>fnd P k 0 [])=none:=h
  cases e:cfF P k with
  | some row=>rw [e] at h;cases h
  | none =>
   rw [e] at h
   by_cases c:l.length<k
   ·exact zdB k e l hi c
   ·rcases z7C (P:=P) k 0 [] with ⟨_,h2⟩ | ⟨m,h1,_⟩
    ·exact h2 l hi (by omega)
    ·have h:fnd P k 0 []=none:=h
     rw [h1] at h;cases h
theorem ziv {P:List Nat→Bool} {row:List Nat}:∀ k,cfF P k=some row→Inc 0 row∧row.length<k∧P row=true∧∀ m,Inc 0 m→P m=true→z8T m row=false
 | 0,h=>by cases h
 | k+1,h=>by
  have h:(match cfF P k with | some row=>some row | none=>fnd P k 0 [])=some row:=h
  cases e:cfF P k with
  | some row2 =>
   rw [e] at h;cases h
   obtain ⟨h1,h2,h3⟩:=ziv k e
   exact ⟨h1,by omega,h3⟩
  | none =>
   rw [e] at h
   have h:fnd P k 0 []=some row:=h
   rcases z7C (P:=P) k 0 [] with ⟨h1,_⟩ | ⟨l,h1,h2,h3,h4,h5⟩
   ·rw [h1] at h;cases h
   ·rw [h1] at h;cases h
    refine ⟨h2,by show l.length<_;omega,h4,fun m hm hP=>zeV (fun c=>?_) fun c=>?_⟩
    ·have:m.length<l.length:=c
     rw [zdB k e m hm (by omega)] at hP;cases hP
    ·have:m.length=l.length:=c
     exact h5 m hm (by omega) hP
theorem z6t:∀ {k} {l:List Nat},Inc k l→k≤12→l.length+k≤12
 | k,[],_,h=>by simpa using h
 | k,a::l,⟨h1,h2,h3⟩,_=>by
  have:=z6t h3 (by omega)
  rw [List.length_cons];omega
theorem z4K:∀ {k} {l:List Nat},Inc k l→∀ x∈l,k≤x∧x<12
 | k,[],_,x,h=>by cases h
 | k,a::l,⟨h1,h2,h3⟩,x,h=>by
  rcases List.mem_cons.1 h with rfl | h
  ·exact ⟨h1,h2⟩
  ·have:=z4K h3 x h;omega
theorem zhM:∀ {k} {l:List Nat},l.Pairwise (· < ·)→(∀ x∈l,k≤x∧x<12)→Inc k l
 | k,[],_,_=>trivial
 | k,a::l,hp,h=>by
  rw [List.pairwise_cons] at hp
  exact ⟨(h a List.mem_cons_self).1,(h a List.mem_cons_self).2,zhM hp.2 fun x hx=>⟨hp.1 x hx,(h x (List.mem_cons_of_mem _ hx)).2⟩⟩
def zZ (s:Nat):List Nat:=(List.range 12).filter fun k=>s.testBit k
theorem z4U (s:Nat):Inc 0 (zZ s):=zhM (List.pairwise_lt_range.filter _) fun x hx=>⟨Nat.zero_le _,List.mem_range.1 (List.mem_filter.1 hx).1⟩
theorem zgN {s:Nat} (h:s<4096):zT (zZ s)=s:=by
 have key:(List.range 4096).all (fun s=>Nat.beq (zT (zZ s)) s)=true:=by decide +kernel
 exact Nat.eq_of_beq_eq_true (List.all_eq_true.1 key s (List.mem_range.2 h))
theorem zgO (k:Nat):∀ (l:List Nat) (m:Nat),(l.foldl (fun m k=>m ||| 1 <<< k) m).testBit k=(m.testBit k||l.contains k)
 | [],m=>by simp
 | a::l,m=>by
  show (l.foldl (fun m k=>m ||| 1 <<< k) (m ||| 1 <<< a)).testBit k=_
  rw [zgO k l,Nat.testBit_or,Nat.one_shiftLeft,Nat.testBit_two_pow,List.contains_cons,Bool.or_assoc]
  congr 2
  rw [Bool.eq_iff_iff,decide_eq_true_iff,beq_iff_eq];exact eq_comm
theorem ze2 (l:List Nat) (k:Nat):(zT l).testBit k=l.contains k:=by
 unfold zT
 rw [zgO,Nat.zero_testBit,Bool.false_or]
theorem zhN:∀ {k} {l m:List Nat},Inc k l→Inc k m→(∀ x,x∈l ↔ x∈m)→l=m
 | _,[],[],_,_,_=>rfl
 | _,[],b::m,_,_,h=>by have:=(h b).2 List.mem_cons_self;cases this
 | _,a::l,[],_,_,h=>by have:=(h a).1 List.mem_cons_self;cases this
 | k,a::l,b::m,h1,h2,h=>by
  have e:a=b:=by
   rcases List.mem_cons.1 ((h a).1 List.mem_cons_self) with g | g
   ·exact g
   ·rcases List.mem_cons.1 ((h b).2 List.mem_cons_self) with q | q
    ·exact q.symm
    ·have:=(z4K h2.2.2 a g).1
     have:=(z4K h1.2.2 b q).1
     omega
  subst e
  rw [zhN h1.2.2 h2.2.2 fun x=>⟨fun g=>?_,fun g=>?_⟩]
  ·rcases List.mem_cons.1 ((h x).1 (List.mem_cons_of_mem _ g)) with q | q
   ·have:=(z4K h1.2.2 x g).1;omega
   ·exact q
  ·rcases List.mem_cons.1 ((h x).2 (List.mem_cons_of_mem _ g)) with q | q
   ·have:=(z4K h2.2.2 x g).1;omega
   ·exact q
theorem zm7 {l:List Nat} (h:Inc 0 l):zZ (zT l)=l:=by
 refine zhN (z4U _) h fun x=>?_
 unfold zZ
 rw [List.mem_filter,ze2,List.contains_iff_mem,List.mem_range]
 exact ⟨fun g=>g.2,fun g=>⟨(z4K h x g).2,g⟩⟩
def bst (B:List Nat):Nat→List Nat
 | 0=>zZ 4095
 | k+1=>bif z8T (zZ k) (bst B k)&&zV B k then zZ k else bst B k
theorem zeP {B:List Nat} (h0:zV B 4095=true):∀ k,k≤4096→(∃ s,s<4096∧zV B s=true∧bst B k=zZ s)∧∀ s,s<k→zV B s=true→z8T (zZ s) (bst B k)=false
 | 0,_=>⟨⟨4095,by decide,h0,rfl⟩,fun s hs=>absurd hs (Nat.not_lt_zero s)⟩
 | k+1,hk=>by
  obtain ⟨h1,h2⟩:=zeP h0 k (by omega)
  have e:bst B (k+1)=bif z8T (zZ k) (bst B k)&&zV B k then zZ k else bst B k:=rfl
  rw [e]
  cases hb:z8T (zZ k) (bst B k)&&zV B k with
  | true =>
   rw [Bool.and_eq_true] at hb
   refine ⟨⟨k,by omega,hb.2,rfl⟩,fun s hs hh=>?_⟩
   show z8T (zZ s) (zZ k)=false
   by_cases c:s=k
   ·subst c
    refine zeV (Nat.lt_irrefl _) fun _=>?_
    rw [←Bool.not_eq_true]
    intro g
    have:∀ l:List Nat,z9c l l=false:=fun l=>by
     induction l with
     | nil=>rfl
     | cons a l ih=>rw [z8V];exact ih
    rw [this] at g;cases g
   ·rw [←Bool.not_eq_true]
    intro g
    have:=ziJ g hb.1
    rw [h2 s (by omega) hh] at this;cases this
  | false =>
   refine ⟨h1,fun s hs hh=>?_⟩
   show z8T (zZ s) (bst B k)=false
   by_cases c:s=k
   ·subst c
    rw [hh,Bool.and_true] at hb;exact hb
   ·exact h2 s (by omega) hh
theorem zmr {B:List Nat} {a:Nat} (hB:∀ w∈B,w<4096) (h:zV B a=true):zV B 4095=true:=by
 unfold zV at h ⊢
 rw [List.all_eq_true] at h ⊢
 intro w hw
 have h1:=h w hw
 have h2:=hB w hw
 rw [show (4095:Nat)=2 ^ 12 - 1 from rfl,Nat.and_comm,Nat.and_two_pow_sub_one_eq_mod,Nat.mod_eq_of_lt h2]
 cases w with
 | zero=>rw [Nat.and_zero] at h1;exact h1
 | succ w=>rfl
theorem zoc {B:List Nat} (hB:∀ w∈B,w<4096):cfF (fun l=>zV B (zT l)) 13=bif zV B 4095 then some (bst B 4096) else none:=by
 cases hc:cfF (fun l=>zV B (zT l)) 13 with
 | none =>
  have h1:=zdB 13 hc (zZ 4095) (z4U _) (by have:=z6t (z4U 4095) (by decide);omega)
  have h1:zV B (zT (zZ 4095))=false:=h1
  rw [zgN (by decide)] at h1
  rw [h1];rfl
 | some row =>
  obtain ⟨h1,_,h3,h4⟩:=ziv 13 hc
  have h5:=zmr hB h3
  rw [h5,cond_true]
  obtain ⟨⟨s,q1,q2,q3⟩,q4⟩:=zeP h5 4096 (Nat.le_refl _)
  rw [q3] at q4 ⊢
  refine congrArg some (zmR ?_ ?_)
  ·have g:zT row<4096:=z6f row fun k hk=>(z4K h1 k hk).2
   have:=q4 (zT row) g h3
   rw [zm7 h1] at this;exact this
  ·refine h4 (zZ s) (z4U s) ?_
   show zV B (zT (zZ s))=true
   rw [zgN q1];exact q2
theorem zax {B M:List Nat} (h:∀ w,w∈M ↔ w∈B) (a:Nat):zV M a=zV B a:=by
 unfold zV
 rw [Bool.eq_iff_iff,List.all_eq_true,List.all_eq_true]
 exact ⟨fun g w hw=>g w ((h w).2 hw),fun g w hw=>g w ((h w).1 hw)⟩
def z94 (B:List Nat):Nat→List Nat
 | 0=>[]
 | k+1=>bif (B.take k).contains (zy B k) then z94 B k else z94 B k++[zy B k]
theorem zb8 {B:List Nat} {k:Nat} (h:k<B.length):B.take (k+1)=B.take k++[zy B k]:=by
 rw [List.take_add_one,List.getElem?_eq_getElem h]
 exact congrArg (fun x=>B.take k++[x]) (z0f h).symm
theorem zdb {B:List Nat}:∀ k,k≤B.length→∀ w,w∈z94 B k ↔ w∈B.take k
 | 0,_,w=>by show w∈[] ↔ w∈B.take 0;rw [List.take_zero]
 | k+1,h,w=>by
  have ih:=zdb (B:=B) k (by omega) w
  rw [zb8 (by omega)]
  show w∈(bif (B.take k).contains (zy B k) then z94 B k else z94 B k++[zy B k]) ↔ _
  rw [List.mem_append,List.mem_singleton,←ih]
  cases hc:(B.take k).contains (zy B k) with
  | true =>
   show w∈z94 B k ↔ _
   refine ⟨.inl,fun g=>g.elim id fun e=>?_⟩
   rw [e]
   exact (zdb (B:=B) k (by omega) _).2 (List.contains_iff_mem.1 hc)
  | false =>
   show w∈z94 B k++[zy B k] ↔ _
   rw [List.mem_append,List.mem_singleton]
theorem zan {B:List Nat}:∀ k,(z94 B k).length≤k
 | 0=>Nat.le_refl _
 | k+1=>by
  have ih:=zan (B:=B) k
  show (bif (B.take k).contains (zy B k) then z94 B k else z94 B k++[zy B k]).length≤_
  cases (B.take k).contains (zy B k) with
  | true=>exact Nat.le_succ_of_le ih
  | false=>rw [cond_false,List.length_append];exact Nat.succ_le_succ ih
theorem zlu {s k:Nat} (hs:s<4096) (hk:k<12) (h:s.testBit k=true):s - 1 <<< k=s ^^^ (s &&& 1 <<< k):=by
 have key:(List.range 4096).all (fun s=>(List.range 12).all fun k=>!s.testBit k||Nat.beq (s - 1 <<< k) (s ^^^ (s &&& 1 <<< k)))=true:=by decide +kernel
 have h1:=List.all_eq_true.1 (List.all_eq_true.1 key s (List.mem_range.2 hs)) k (List.mem_range.2 hk)
 rw [h] at h1
 exact Nat.eq_of_beq_eq_true h1
end Go.Proofs.YtdpipdniklognaaGreat
/- Walks of the reference: sets of holes that runs break, holes of a set, Conflict. -/
set_option maxRecDepth 100000
namespace Go.Proofs.YtdpipdniklognaaGreat
variable {r:Rm}
theorem zf0:∀ {a b:List Nat},(∀ q,q<a.length→zy a q=zy b q)→a.length=b.length→z9c a b=false
 | [],_,_,_=>rfl
 | _::_,[],_,h=>by cases h
 | x::a,y::b,h,hl=>by
  have e:x=y:=h 0 (Nat.succ_pos _)
  subst e
  rw [z8V]
  exact zf0 (fun q hq=>h (q+1) (Nat.succ_lt_succ hq)) (Nat.succ.inj hl)
theorem zlc:∀ {a b:List Nat} {k:Nat},(∀ q,q<k→zy a q=zy b q)→k<a.length→a.length=b.length→zy a k≠zy b k→z9c a b=decide (zy a k<zy b k)
 | [],_,k,_,hk,_,_=>absurd hk (Nat.not_lt_zero _)
 | _::_,[],_,_,_,h,_=>by cases h
 | x::a,y::b,0,_,_,_,hne=>z5S hne
 | x::a,y::b,k+1,h,hk,hl,hne=>by
  have e:x=y:=h 0 (Nat.succ_pos _)
  subst e
  rw [z8V]
  exact zlc (fun q hq=>h (q+1) (Nat.succ_lt_succ hq)) (Nat.lt_of_succ_lt_succ hk) (Nat.succ.inj hl) hne
theorem zkw {a b:List Nat} {b1 b2:Bool} (hl:a.length=b.length) (hn:a.length<9223372036854775808):VP (sE r) 93 [.p (zQ b1 a),.p (zQ b2 b)] (bv (z9c a b)):=by
 have ha:(a.map Int.ofNat).length=a.length:=List.length_map _
 have hb:(b.map Int.ofNat).length=b.length:=List.length_map _
 refine VP.of (fn:=Tryz.f93) za (zH rfl) (by kernel_rfl) rfl rfl rfl ?_
 refine VSt.go za false [] 200 rfl AllP.n ?_
 refine z09 (ti:=5) a.length [0,1] (fun _=>[]) (fun _=>[]) (fun k=>∀ q,q<k→zy a q=zy b q) rfl rfl z0l trivial none0 (fun k hk hp=>?_)
 refine VSt.go za false [] 200 rfl AllP.n ?_
 refine VSt.cond rfl (fun g=>?_) (fun g=>?_)
 ·have g:k<(a.map Int.ofNat).length:=nlt g
  have g2:k<(b.map Int.ofNat).length:=by omega
  refine VSt.go za false [] 200 rfl (AllP.c ‹_› (AllP.c rfl (AllP.c ‹_› (AllP.c rfl AllP.n)))) ?_
  refine VSt.cond rfl (fun h1=>?_) (fun h1=>?_)
  ·have h1:(!((a.map Int.ofNat).getD k 0==(b.map Int.ofNat).getD k 0))=true:=h1
   rw [z0H,z0H] at h1
   refine VSt.go za false [] 200 rfl (AllP.c ‹_› (AllP.c rfl (AllP.c ‹_› (AllP.c rfl AllP.n)))) ?_
   refine EndsP.mk rfl rfl rfl ?_
   show bv (decide ((a.map Int.ofNat).getD k 0<(b.map Int.ofNat).getD k 0))=bv _
   rw [z0H,z0H,zlc hp (by omega) hl (fun e=>by rw [e,beq_self_eq_true] at h1;cases h1)]
   congr 1
   rw [Bool.eq_iff_iff,decide_eq_true_iff,decide_eq_true_iff]
   simp only [Int.ofNat_eq_natCast];omega
  ·have h1:(!((a.map Int.ofNat).getD k 0==(b.map Int.ofNat).getD k 0))=false:=h1
   rw [z0H,z0H] at h1
   have h2:(Int.ofNat (zy a k)==Int.ofNat (zy b k))=true:=by simpa using h1
   have h3:=Int.ofNat.inj (eq_of_beq h2)
   refine VSt.go za false [] 200 rfl (AllP.c (by unfold inR;(try simp only [Int.ofNat_eq_natCast]);omega) AllP.n) ?_
   exact ⟨by omega,by (refine Vw.drop (by repeat (first | exact zu | refine zk rfl rfl rfl ?_ | refine zA rfl ‹_› (zt _ ‹_›) ?_))),z0e hp h3⟩
 ·have g:(a.map Int.ofNat).length≤k:=nge g
  have g:k=a.length:=by omega
  subst g
  refine VSt.go za false [] 200 rfl AllP.n ?_
  refine EndsP.mk rfl rfl rfl ?_
  rw [zf0 hp hl];rfl
theorem zo0 {M:List Nat} {a k:Nat} (hk:k<M.length) (h:(zy M k &&& a==0)=true):zV M a=false:=by
 rw [←Bool.not_eq_true]
 intro g
 unfold zV at g
 rw [List.all_eq_true] at g
 have g1:zy M k∈M:=z0J hk
 have:=g _ g1
 rw [Nat.and_comm,h] at this;cases this
theorem zmp {M:List Nat} {a:Nat} (h:∀ k,k<M.length→(zy M k &&& a==0)=false):zV M a=true:=by
 unfold zV
 rw [List.all_eq_true]
 intro x hx
 obtain ⟨k,hk,e⟩:=z0I (d:=0) hx
 have:=h k hk
 rw [show zy M k=x from e,Nat.and_comm] at this
 rw [this];rfl
theorem z3b {M:List Nat} {a:Nat} {b:Bool} (hn:M.length<9223372036854775808) (hM:∀ w∈M,w<4096) (ha:a<9223372036854775808):VP (sE r) 91 [.p (zQ b M),nv a] (bv (zV M a)):=by
 have hl:(M.map Int.ofNat).length=M.length:=List.length_map _
 refine VP.of (fn:=Tryz.f91) za (zH rfl) (by kernel_rfl) rfl rfl rfl ?_
 refine VSt.go za false [] 200 rfl AllP.n ?_
 refine z09 (ti:=5) M.length [0,1] (fun _=>[]) (fun _=>[]) (fun k=>∀ q,q<k→(zy M q &&& a==0)=false) rfl rfl z0l trivial none0 (fun k hk hp=>?_)
 refine VSt.go za false [] 200 rfl AllP.n ?_
 refine VSt.cond rfl (fun g=>?_) (fun g=>?_)
 ·have g:k<(M.map Int.ofNat).length:=nlt g
  have g1:k<M.length:=by omega
  have hw:zy M k<9223372036854775808:=Nat.lt_trans (hM _ (z0J g1)) (by decide)
  refine VSt.go za false [16] 200 rfl (AllP.c ‹_› (AllP.c rfl AllP.n)) ?_
  refine zw 15 (nv (zy M k)) rfl (z0K z0H) ?_
  refine VSt.go za false [] 200 rfl (AllP.c ‹_› (AllP.c ‹_› AllP.n)) ?_
  refine VSt.cond rfl (fun h1=>?_) (fun h1=>?_)
  ·have h1:(Int.ofNat (zy M k &&& a)==0)=true:=h1
   rw [z4s] at h1
   refine VSt.go za false [] 200 rfl AllP.n ?_
   refine EndsP.mk rfl rfl rfl ?_
   rw [zo0 g1 h1];rfl
  ·have h1:(Int.ofNat (zy M k &&& a)==0)=false:=h1
   rw [z4s] at h1
   refine VSt.go za false [] 200 rfl (AllP.c (by unfold inR;(try simp only [Int.ofNat_eq_natCast]);omega) AllP.n) ?_
   exact ⟨g1,by (refine Vw.drop (by repeat (first | exact zu | refine zk rfl rfl rfl ?_ | refine zA rfl ‹_› (zt _ ‹_›) ?_))),z0e hp h1⟩
 ·have g:(M.map Int.ofNat).length≤k:=nge g
  have g:k=M.length:=by omega
  subst g
  refine VSt.go za false [] 200 rfl AllP.n ?_
  refine EndsP.mk rfl rfl rfl ?_
  rw [zmp hp];rfl
def zhn (s k:Nat):List Int:=((List.range k).filter fun i=>s.testBit i).map Int.ofNat
theorem znL {s k:Nat} (h:s.testBit k=true):zhn s (k+1)=zhn s k++[Int.ofNat k]:=by
 unfold zhn
 rw [List.range_succ,List.filter_append,List.map_append,List.filter_cons_of_pos h];rfl
theorem znM {s k:Nat} (h:s.testBit k=false):zhn s (k+1)=zhn s k:=by
 unfold zhn
 rw [List.range_succ,List.filter_append,List.filter_cons_of_neg (by rw [h];decide),List.filter_nil,List.append_nil]
theorem zjN (s k:Nat):(zhn s k).length≤k:=by
 unfold zhn
 rw [List.length_map]
 exact Nat.le_trans (List.length_filter_le _ _) (by rw [List.length_range];exact Nat.le_refl _)
theorem z9s {s:Nat} (hs:s<9223372036854775808):VP (sE r) 92 [nv s] (.p (zQ (zZ s).isEmpty (zZ s))):=by
 refine VP.of (fn:=Tryz.f92) za (zH rfl) (by kernel_rfl) rfl rfl rfl ?_
 refine VSt.go za false [] 200 rfl AllP.n ?_
 refine z05 (z3K 0 1 (fL []) 3 rfl) ?_
 refine z09 (ti:=4) 12 [0] (fun k=>[(3,.acc true 0 1 (zhn s k).length)]) (fun k=>[(0,.acc (zhn s k).length 1 (fL (zhn s k)) 3)]) (fun _=>True) rfl rfl (z0L rfl z1k z0l) (LImp.refl _) trivial (fun k hk _=>?_)
 have hlen:=zjN s k
 refine VSt.go za false [] 200 rfl AllP.n ?_
 refine VSt.cond rfl (fun g=>?_) (fun g=>?_)
 ·have g:=nlt (n:=12) g
  have hsh:1 <<< k<9223372036854775808:=by
   rw [Nat.one_shiftLeft];exact Nat.lt_of_lt_of_le (Nat.pow_lt_pow_right (by decide) g) (by decide)
  refine VSt.go za false [] 200 rfl (AllP.c (by omega) (AllP.c ‹_› (AllP.c ‹_› (AllP.c ‹_› AllP.n)))) ?_
  refine VSt.cond rfl (fun h1=>?_) (fun h1=>?_)
  ·have h1:(!(Int.ofNat (s &&& 1 <<< k)==0))=true:=h1
   rw [zaS,Bool.not_not] at h1
   have e:=znL h1
   have hN:=congrArg List.length e
   rw [List.length_append,List.length_singleton] at hN
   refine VSt.go za false [] 200 rfl (AllP.c (by omega) (AllP.c (by omega) (AllP.c (fun q hq=>match q,hq with | 0,_=>rfl) (AllP.c rfl (AllP.c rfl (AllP.c rfl (AllP.c (by unfold inR;(try simp only [Int.ofNat_eq_natCast]);omega) AllP.n))))))) ?_
   refine ⟨g,?_,trivial⟩
   exact z1a (ps:=[(0,1)]) ⟨rfl,rfl,(by repeat (first | exact zu | refine zk rfl rfl rfl ?_ | refine z0X rfl rfl z3q ?_ | refine z0X rfl rfl (AImp.acc hN.symm (fun _=>rfl)) ?_)),_,rfl,⟨rfl,BImp.acc hN.symm (fun q hq=>by rw [e];exact z6C _ _ q hq),trivial⟩⟩
  ·have h1:(!(Int.ofNat (s &&& 1 <<< k)==0))=false:=h1
   rw [zaS,Bool.not_not] at h1
   have e:=znM h1
   refine VSt.go za false [] 200 rfl (AllP.c (by unfold inR;(try simp only [Int.ofNat_eq_natCast]);omega) AllP.n) ?_
   refine ⟨g,?_,trivial⟩
   dsimp only
   rw [e]
   refine z1a (ps:=[(0,0)]) ⟨rfl,rfl,(by repeat (first | exact zu | refine zk rfl rfl rfl ?_)),_,rfl,(⟨rfl,BImp.refl _,trivial⟩)⟩
 ·have g:k=12:=by have:=nge (n:=12) g;omega
  subst g
  refine VSt.go za false [2] 200 rfl AllP.n ?_
  refine zb (Vw.kp [18] [(0,0)] rfl) ?_
  refine zb (z0G 0 rfl rfl (by (repeat (first | exact AllP.n | refine AllP.c (by first | assumption | rfl | omega | exact Nat.le_refl _ | (show 0<_;omega) | (show 1<_;omega) | (show 2<_;omega) | (show 3<_;omega) | (intro _ _;rfl) | (intro q hq;match q,hq with | 0,_=>rfl) | (unfold inR;(try simp only [Int.ofNat_eq_natCast]);omega)) ?_)))) ?_
  refine VSt.go za false [] 200 rfl AllP.n ?_
  refine EndsP.mk rfl rfl rfl (Eq.trans (z8W rfl) ?_)
  show AV.p (z7h (((zZ s).map Int.ofNat).isEmpty) ((zZ s).map Int.ofNat))=_
  rw [List.isEmpty_map];rfl
end Go.Proofs.YtdpipdniklognaaGreat
/- Walks of the reference: the sets that runs break; Conflict. -/
set_option maxRecDepth 100000
namespace Go.Proofs.YtdpipdniklognaaGreat
variable {r:Rm}
theorem zjn {h:Hp} (n:OkH h) (p:Int):(z1Y h p).map (fun o=>zR (zO h o) 12)=z3R h p:=by
 have hb:=zar (l:=h.st) (p:=p)
 have hlen:(zaV h.st p).length=(zW h.st p).length:=by rw [←hb,List.length_map]
 have hg:∀ i,i<(zW h.st p).length→zg (zW h.st p) i=zg h.st (zy (zaV h.st p) i):=fun i hi=>by
  have hi2:i<(zaV h.st p).length:=by omega
  rw [←hb]
  exact zcP (h:=h) hi2
 have hnd:(zaV h.st p).Nodup:=(zbN (l:=h.st) (p:=p) h.st.length).imp fun h=>Nat.ne_of_lt h
 have hinj:∀ i k,i<(zW h.st p).length→k<(zW h.st p).length→i≠k→zy (zaV h.st p) i≠zy (zaV h.st p) k:=fun i k hi hk hne e=>hne (zjO hnd (by omega) (by omega) e)
 have hpap:∀ i,i<(zW h.st p).length→(zg (zW h.st p) i).paper=p:=fun i hi=>by
  have h1:zg (zW h.st p) i∈zW h.st p:=z0J hi
  exact eq_of_beq (List.mem_filter.1 h1).2
 have hl0:lfL (zW h.st p).length []=List.range (zW h.st p).length:=List.filter_eq_self.2 fun _ _=>rfl
 have hmap:(List.range (zW h.st p).length).map (zy (zaV h.st p))=zaV h.st p:=by
  refine List.ext_getElem (by rw [List.length_map,List.length_range,hlen]) fun k h1 h2=>?_
  rw [List.getElem_map,List.getElem_range]
  exact z0f h2
 have key:=zbG n hg hinj (fun i k hi hk=>by rw [hpap i hi,hpap k hk]) (zW h.st p).length [] rfl (fun i hi=>by cases hi) (fun k hk=>absurd hk (Nat.not_lt_zero _)) (by rw [hl0,List.length_range])
 rw [hl0,hmap] at key
 have hruns:z1Y h p=((zcS h (zW h.st p)).filter fun x=>zdZ h (zX (zW h.st p) x)).map fun x=>(x.map (zy (zaV h.st p))).reverse:=by
  unfold z1Y
  rw [hlen];exact key
 rw [hruns,List.map_map]
 unfold z3R
 refine List.map_congr_left fun x hx=>?_
 have hm:=ze6 (List.mem_filter.1 hx).1
 show zR (zO h (x.map (zy (zaV h.st p))).reverse) 12=_
 congr 1
 unfold zO zX
 rw [←List.map_reverse,List.map_map]
 refine List.map_congr_left fun i hi=>?_
 exact (hg i (hm i (List.mem_reverse.1 hi))).symm
theorem zaM {h:Hp} {p:Int}:∀ w∈z3R h p,w<4096:=fun w hw=>by
 obtain ⟨x,_,rfl⟩:=List.mem_map.1 hw
 exact z6Z _ 12
def y7 (h:Hp) (R:List (List Nat)):List Nat:=R.map fun o=>zR (zO h o) 12
theorem zmO {h:Hp} {R:List (List Nat)} {k:Nat} (hk:k<R.length):zy (y7 h R) k=zR (zO h (zpN R k)) 12:=by
 unfold zy y7 zpN
 rw [z0f (show k<(R.map fun o=>zR (zO h o) 12).length by rw [List.length_map];exact hk),List.getElem_map,z0f hk]
def zhs (B:List Nat) (k:Nat):List Int:=(z94 B k).map Int.ofNat
def zgS (B:List Nat) (k:Nat):Nat→List PV:=fun q=>[.bool ((B.take k).contains q)]
set_option maxHeartbeats 8000000 in
theorem zek {h:Hp} {R:List (List Nat)} (hR:R.length≤5040):VP (sE r) 89 [.p (zkd h R)] (.p (zQ (zhs (y7 h R) R.length).isEmpty (z94 (y7 h R) R.length))):=by
 refine VP.of (fn:=Tryz.f89) za (zH rfl) (by kernel_rfl) rfl rfl rfl ?_
 refine VSt.go za false [] 200 rfl ((by repeat (first | exact AllP.n | refine AllP.c (by decide) ?_))) ?_
 refine z05 (z3K 1 1 (fL []) 3 rfl) ?_
 refine z09 (ti:=5) R.length [0,3] (fun k=>[(4,.acc true 1 1 (zhs (y7 h R) k).length)]) (fun k=>[(1,.acc (zhs (y7 h R) k).length 1 (fL (zhs (y7 h R) k)) 3),(0,.arr 4096 1 (zgS (y7 h R) k) 4)]) (fun _=>True) rfl rfl (z0L rfl z1k z0l) ⟨rfl,BImp.refl _,rfl,BImp.arr (fun q _=>by unfold zgS;rw [List.take_zero];rfl),trivial⟩ trivial (fun k hk _=>?_)
 have hlen:(zhs (y7 h R) k).length≤k:=by unfold zhs;rw [List.length_map];exact zan k
 refine VSt.go za false [] 200 rfl AllP.n ?_
 refine VSt.cond rfl (fun g=>?_) (fun g=>?_)
 ·have g:=nlt g
  have hb:0+zR (zO h (R.getD k [])) 12<4096:=by rw [Nat.zero_add];exact z6Z _ 12
  have hb2:zR (zO h (R.getD k [])) 12<4096:=z6Z _ 12
  have hat:zy (y7 h R) k=zR (zO h (R.getD k [])) 12:=zmO g
  have hRl:k<(y7 h R).length:=by unfold y7;rw [List.length_map];exact g
  have hsn:∀ q,(bif Nat.beq q (0+zR (zO h (R.getD k [])) 12) then z9o (zgS (y7 h R) k (0+zR (zO h (R.getD k [])) 12)) 0 [PV.bool true] else zgS (y7 h R) k q)=zgS (y7 h R) (k+1) q:=fun q=>by
   show (bif Nat.beq q (0+zR (zO h (R.getD k [])) 12) then [PV.bool true] else [PV.bool ((y7 h R).take k |>.contains q)])=[PV.bool ((y7 h R).take (k+1) |>.contains q)]
   rw [zb8 hRl,hat,Nat.zero_add]
   cases hq:Nat.beq q (zR (zO h (R.getD k [])) 12) with
   | true =>
    have:=Nat.eq_of_beq_eq_true hq
    rw [List.contains_iff_mem.2 (List.mem_append.2 (.inr (List.mem_singleton.2 this)))];rfl
   | false =>
    have e:((y7 h R).take k++[zR (zO h (R.getD k [])) 12]).contains q=((y7 h R).take k).contains q:=by
     rw [Bool.eq_iff_iff,List.contains_iff_mem,List.contains_iff_mem,List.mem_append,List.mem_singleton]
     refine ⟨fun g=>g.elim id fun e=>?_,.inl⟩
     rw [e,show Nat.beq (zR (zO h (R.getD k [])) 12) (zR (zO h (R.getD k [])) 12)=true from Nat.beq_refl _] at hq;cases hq
    rw [e];rfl
  have eK:zhs (y7 h R) (k+1)=bif ((y7 h R).take k).contains (0+zR (zO h (R.getD k [])) 12) then zhs (y7 h R) k else zhs (y7 h R) k++[Int.ofNat (zR (zO h (R.getD k [])) 12)]:=by
   show ((bif ((y7 h R).take k).contains (zy (y7 h R) k) then z94 (y7 h R) k else z94 (y7 h R) k++[zy (y7 h R) k]).map Int.ofNat)=_
   rw [hat,Nat.zero_add]
   cases ((y7 h R).take k).contains (zR (zO h (R.getD k [])) 12) with
   | true=>rfl
   | false=>rw [cond_false,cond_false,List.map_append];rfl
  refine VSt.go za false [] 200 rfl (AllP.c ‹_› (AllP.c rfl (AllP.c ‹_› (AllP.c rfl (AllP.c ‹_› (AllP.c rfl AllP.n)))))) ?_
  refine VSt.cond rfl (fun h1=>?_) (fun h1=>?_)
  ·have h1:(!((y7 h R).take k).contains (0+zR (zO h (R.getD k [])) 12))=true:=h1
   rw [Bool.not_eq_true'] at h1
   rw [h1,cond_false] at eK
   have hN:=congrArg List.length eK
   rw [List.length_append,List.length_singleton] at hN
   refine VSt.go za false [] 200 rfl (AllP.c ‹_› (AllP.c rfl (AllP.c (by omega) (AllP.c (by omega) (AllP.c (fun q hq=>match q,hq with | 0,_=>rfl) (AllP.c rfl (AllP.c rfl (AllP.c rfl (AllP.c ‹_› (AllP.c rfl (AllP.c ‹_› (AllP.c rfl (AllP.c ‹_› (AllP.c rfl (AllP.c (Nat.le_refl _) (AllP.c (by unfold inR;(try simp only [Int.ofNat_eq_natCast]);omega) AllP.n)))))))))))))))) ?_
   refine ⟨g,?_,trivial⟩
   exact z1a (ps:=[(1,2),(0,0)]) ⟨rfl,rfl,(by repeat (first | exact zu | refine zk rfl rfl rfl ?_ | refine z0X rfl rfl z3q ?_ | refine z0X rfl rfl (AImp.acc hN.symm (fun _=>rfl)) ?_)),_,rfl,⟨rfl,BImp.acc hN.symm (fun q hq=>by rw [eK];exact z6C _ _ q hq),rfl,BImp.arr (fun q _=>hsn q),trivial⟩⟩
  ·have h1:(!((y7 h R).take k).contains (0+zR (zO h (R.getD k [])) 12))=false:=h1
   rw [Bool.not_eq_false'] at h1
   rw [h1,cond_true] at eK
   refine VSt.go za false [] 200 rfl (AllP.c ‹_› (AllP.c rfl (AllP.c ‹_› (AllP.c rfl (AllP.c ‹_› (AllP.c rfl (AllP.c (Nat.le_refl _) (AllP.c (by unfold inR;(try simp only [Int.ofNat_eq_natCast]);omega) AllP.n)))))))) ?_
   refine ⟨g,?_,trivial⟩
   dsimp only
   rw [eK]
   refine z1a (ps:=[(1,1),(0,0)]) ⟨rfl,rfl,(by repeat (first | exact zu | refine zk rfl rfl rfl ?_)),_,rfl,(⟨rfl,BImp.refl _,rfl,BImp.arr (fun q _=>hsn q),trivial⟩)⟩
 ·have g:k=R.length:=by have:=nge g;omega
  subst g
  refine VSt.go za false [2] 200 rfl AllP.n ?_
  refine zb (Vw.kp [37] [(1,1)] rfl) ?_
  refine zb (z0G 1 rfl rfl (by (repeat (first | exact AllP.n | refine AllP.c (by first | assumption | rfl | omega | exact Nat.le_refl _ | (show 0<_;omega) | (show 1<_;omega) | (show 2<_;omega) | (show 3<_;omega) | (intro _ _;rfl) | (intro q hq;match q,hq with | 0,_=>rfl) | (unfold inR;(try simp only [Int.ofNat_eq_natCast]);omega)) ?_)))) ?_
  refine VSt.go za false [] 200 rfl AllP.n ?_
  exact EndsP.mk rfl rfl rfl (z8W rfl)
theorem zhr {h:Hp} {p:Int} (n:OkH h):∀ w,w∈z94 (y7 h (z1Y h p)) (z1Y h p).length ↔ w∈z3R h p:=fun w=>by
 have e:(y7 h (z1Y h p)).length=(z1Y h p).length:=List.length_map _
 rw [zdb _ (Nat.le_of_eq e.symm),←e,List.take_length]
 show w∈(z1Y h p).map _ ↔ _
 rw [zjn n]
theorem zeQ {B M:List Nat} (h:∀ w,w∈M ↔ w∈B):∀ k,bst M k=bst B k
 | 0=>rfl
 | k+1=>by
  show (bif z8T (zZ k) (bst M k)&&zV M k then zZ k else bst M k)=_
  rw [zeQ h k,zax h];rfl
theorem zdE {B:List Nat}:∀ k,(bst B k).length≤12
 | 0=>by have:=z6t (z4U 4095) (by decide);exact this
 | k+1=>by
  show (bif z8T (zZ k) (bst B k)&&zV B k then zZ k else bst B k).length≤12
  cases z8T (zZ k) (bst B k)&&zV B k with
  | true=>exact z6t (z4U k) (by decide)
  | false=>exact zdE k
theorem zdC {h:Hp} {p:Int} (e:ppE h p=0):cfE h p=(bif zV (z3R h p) 4095 then 0 else 54)∧cfV h p=bif zV (z3R h p) 4095 then (bst (z3R h p) 4096).map Int.ofNat else []:=by
 have hc:cfF (z3P h p) 13=bif zV (z3R h p) 4095 then some (bst (z3R h p) 4096) else none:=zoc zaM
 unfold cfE cfV
 rw [if_pos e,if_pos e,hc]
 generalize bst (z3R h p) 4096=row
 cases zV (z3R h p) 4095 <;> exact ⟨rfl,rfl⟩
set_option maxHeartbeats 8000000 in
theorem zbo {h:Hp} {p:Int} (hz:SzH h):VP (sE r) 28 [.agg ((eHp h).map .p),iv p] (.tup [.p (eL (cfV h p)),iv (cfE h p)]):=by
 have hc:=z8d (r:=r) (p:=p) hz
 rcases z7o h p with ⟨hO,e⟩ | e
 rotate_left
 ·rw [show cfE h p=ppE h p from if_neg (zfq e),show cfV h p=[] from if_neg (zfq e)]
  refine VP.of (fn:=Tryz.f28) za (zH rfl) (by kernel_rfl) rfl rfl rfl ?_
  refine VSt.go za false [] 200 rfl AllP.n ?_
  refine zb (z00 0 (eHp h) rfl rfl) ?_
  refine VSt.pc rfl rfl rfl rfl rfl rfl rfl rfl (hc) ?_
  refine VSt.go za false [] 200 rfl AllP.n ?_
  refine VSt.cond rfl (fun _=>?_) (fun q=>absurd (q.symm.trans e) (by decide))
  refine VSt.go za false [] 200 rfl AllP.n ?_
  exact ⟨rfl,_,rfl,rfl,AImp.tup ⟨AImp.nil,AImp.refl _,trivial⟩⟩
 have hM:=zhr (p:=p) hO
 have hMl:(z94 (y7 h (z1Y h p)) (z1Y h p).length).length≤5040:=Nat.le_trans (zan _) (z5n hO p)
 have hM4:∀ w∈z94 (y7 h (z1Y h p)) (z1Y h p).length,w<4096:=fun w hw=>zaM w ((hM w).1 hw)
 rw [(zdC e).1,(zdC e).2,←zax hM,←zeQ hM]
 obtain ⟨n,hn⟩:∃ n:Nat,n=4096:=⟨_,rfl⟩
 rw [←hn]
 rw [e] at hc
 have hmk:=zek (r:=r) (h:=h) (z5n hO p)
 generalize z94 (y7 h (z1Y h p)) (z1Y h p).length=M at *
 generalize (zhs (y7 h (z1Y h p)) (z1Y h p).length).isEmpty=mb at *
 refine VP.of (fn:=Tryz.f28) za (zH rfl) (by kernel_rfl) rfl rfl rfl ?_
 refine VSt.go za false [] 200 rfl AllP.n ?_
 refine zb (z00 0 (eHp h) rfl rfl) ?_
 refine VSt.pc rfl rfl rfl rfl rfl rfl rfl rfl (hc) ?_
 refine VSt.go za false [] 200 rfl AllP.n ?_
 refine VSt.cond rfl (fun q=>absurd q (by decide)) (fun _=>?_)
 refine VSt.go za false [] 200 rfl AllP.n ?_
 refine VSt.pc rfl rfl rfl rfl rfl rfl rfl rfl ((zgU (p:=p) hz hO)) ?_
 refine VSt.go za false [] 200 rfl AllP.n ?_
 refine VSt.pc rfl rfl rfl rfl rfl rfl rfl rfl (hmk) ?_
 refine VSt.go za false [] 200 rfl AllP.n ?_
 refine VSt.pc rfl rfl rfl rfl rfl rfl rfl rfl ((z3b (M:=M) (a:=4095) (by omega) hM4 (by decide))) ?_
 refine VSt.go za false [] 200 rfl AllP.n ?_
 refine VSt.cond rfl (fun q=>?_) (fun q=>?_)
 ·have q:(!zV M 4095)=true:=q
  rw [Bool.not_eq_true'] at q
  rw [q]
  refine VSt.go za false [] 200 rfl AllP.n ?_
  exact ⟨rfl,_,rfl,rfl,AImp.tup ⟨AImp.nil,AImp.refl _,trivial⟩⟩
 have q:(!zV M 4095)=false:=q
 rw [Bool.not_eq_false'] at q
 rw [q,cond_true,cond_true]
 refine VSt.go za false [] 200 rfl AllP.n ?_
 refine VSt.pc rfl rfl rfl rfl rfl rfl rfl rfl ((z9s (s:=4095) (by decide))) ?_
 refine VSt.go za false [] 200 rfl AllP.n ?_
 refine z09 (ti:=9) n [7] (fun k=>[(8,.p (zQ (bst M k).isEmpty (bst M k)))]) (fun _=>[]) (fun _=>True) rfl rfl (z0L rfl (AImp.refl _) z0l) trivial trivial (fun k hk _=>?_)
 have hbl:=zdE (B:=M) k
 have hnl:=z6t (z4U k) (by decide)
 have h1l:((zZ k).map Int.ofNat).length=(zZ k).length:=List.length_map _
 have h2l:((bst M k).map Int.ofNat).length=(bst M k).length:=List.length_map _
 have hbs:bst M (k+1)=bif z8T (zZ k) (bst M k)&&zV M k then zZ k else bst M k:=rfl
 refine VSt.go za false [] 200 rfl AllP.n ?_
 refine VSt.cond rfl (fun g=>?_) (fun g=>?_)
 rotate_left
 ·have g:¬ Int.ofNat k≤4095:=of_decide_eq_false g
  have g:k=n:=by simp only [Int.ofNat_eq_natCast] at g;omega
  subst g
  refine VSt.go za false [] 200 rfl AllP.n ?_
  refine EndsP.mk rfl rfl rfl ?_
  show AV.tup [.p (zQ (bst M k).isEmpty (bst M k)),iv 0]=AV.tup [.p (z7h ((bst M k).map Int.ofNat).isEmpty ((bst M k).map Int.ofNat)),iv 0]
  rw [List.isEmpty_map];rfl
 have g:Int.ofNat k≤4095:=of_decide_eq_true g
 have g:k<n:=by simp only [Int.ofNat_eq_natCast] at g;omega
 refine VSt.go za false [] 200 rfl AllP.n ?_
 refine VSt.pc rfl rfl rfl rfl rfl rfl rfl rfl ((z9s (s:=k) (by omega))) ?_
 refine VSt.go za false [] 200 rfl AllP.n ?_
 refine zi 36 rfl (fun a1=>?_) (fun a1=>?_)
 ·have a1:=nlt a1
  have hb:z8T (zZ k) (bst M k)=true:=bet_iff.2 (.inl (by omega))
  refine VSt.go za false [] 200 rfl AllP.n ?_
  refine VSt.pc rfl rfl rfl rfl rfl rfl rfl rfl ((z3b (M:=M) (a:=k) (b:=mb) (by omega) hM4 (by omega))) ?_
  refine VSt.go za false [] 200 rfl AllP.n ?_
  refine VSt.cond rfl (fun h1=>?_) (fun h1=>?_)
  ·have h1:zV M k=true:=h1
   rw [hb,h1] at hbs
   refine VSt.go za false [] 200 rfl (AllP.c (by unfold inR;(try simp only [Int.ofNat_eq_natCast]);omega) AllP.n) ?_
   refine ⟨g,?_,trivial⟩
   dsimp only
   rw [hbs]
   (refine Vw.drop (by repeat (first | exact zu | refine zk rfl rfl rfl ?_ | refine zA rfl ‹_› (zt _ ‹_›) ?_)))
  ·have h1:zV M k=false:=h1
   rw [hb,h1] at hbs
   refine VSt.go za false [] 200 rfl (AllP.c (by unfold inR;(try simp only [Int.ofNat_eq_natCast]);omega) AllP.n) ?_
   refine ⟨g,?_,trivial⟩
   dsimp only
   rw [hbs]
   (refine Vw.drop (by repeat (first | exact zu | refine zk rfl rfl rfl ?_ | refine zA rfl ‹_› (zt _ ‹_›) ?_)))
 have a1:=nge a1
 refine VSt.go za false [] 200 rfl AllP.n ?_
 refine zi 42 rfl (fun a2=>?_) (fun a2=>?_)
 rotate_left
 ·have a2:(Int.ofNat ((zZ k).map Int.ofNat).length==Int.ofNat ((bst M k).map Int.ofNat).length)=false:=a2
  have hb:z8T (zZ k) (bst M k)=false:=zeV (by omega) fun e=>by
   rw [h1l,h2l,e,beq_self_eq_true] at a2;cases a2
  rw [hb] at hbs
  refine VSt.go za false [] 200 rfl (AllP.c (by unfold inR;(try simp only [Int.ofNat_eq_natCast]);omega) AllP.n) ?_
  refine ⟨g,?_,trivial⟩
  dsimp only
  rw [hbs]
  (refine Vw.drop (by repeat (first | exact zu | refine zk rfl rfl rfl ?_ | refine zA rfl ‹_› (zt _ ‹_›) ?_)))
 have a2:(Int.ofNat ((zZ k).map Int.ofNat).length==Int.ofNat ((bst M k).map Int.ofNat).length)=true:=a2
 have a3:(zZ k).length=(bst M k).length:=by
  have:=eq_of_beq a2
  rw [h1l,h2l] at this
  exact Int.ofNat.inj this
 refine VSt.go za false [] 200 rfl AllP.n ?_
 refine VSt.pc rfl rfl rfl rfl rfl rfl rfl rfl ((zkw (a:=zZ k) (b:=bst M k) a3 (by omega))) ?_
 refine VSt.go za false [] 200 rfl AllP.n ?_
 refine zi 48 rfl (fun a4=>?_) (fun a4=>?_)
 ·have a4:z9c (zZ k) (bst M k)=true:=a4
  have hb:z8T (zZ k) (bst M k)=true:=bet_iff.2 (.inr ⟨a3,a4⟩)
  refine VSt.go za false [] 200 rfl AllP.n ?_
  refine VSt.pc rfl rfl rfl rfl rfl rfl rfl rfl ((z3b (M:=M) (a:=k) (b:=mb) (by omega) hM4 (by omega))) ?_
  refine VSt.go za false [] 200 rfl AllP.n ?_
  refine VSt.cond rfl (fun h1=>?_) (fun h1=>?_)
  ·have h1:zV M k=true:=h1
   rw [hb,h1] at hbs
   refine VSt.go za false [] 200 rfl (AllP.c (by unfold inR;(try simp only [Int.ofNat_eq_natCast]);omega) AllP.n) ?_
   refine ⟨g,?_,trivial⟩
   dsimp only
   rw [hbs]
   (refine Vw.drop (by repeat (first | exact zu | refine zk rfl rfl rfl ?_ | refine zA rfl ‹_› (zt _ ‹_›) ?_)))
  ·have h1:zV M k=false:=h1
   rw [hb,h1] at hbs
   refine VSt.go za false [] 200 rfl (AllP.c (by unfold inR;(try simp only [Int.ofNat_eq_natCast]);omega) AllP.n) ?_
   refine ⟨g,?_,trivial⟩
   dsimp only
   rw [hbs]
   (refine Vw.drop (by repeat (first | exact zu | refine zk rfl rfl rfl ?_ | refine zA rfl ‹_› (zt _ ‹_›) ?_)))
 ·have a4:z9c (zZ k) (bst M k)=false:=a4
  have hb:z8T (zZ k) (bst M k)=false:=zeV (by omega) fun _=>a4
  rw [hb] at hbs
  refine VSt.go za false [] 200 rfl (AllP.c (by unfold inR;(try simp only [Int.ofNat_eq_natCast]);omega) AllP.n) ?_
  refine ⟨g,?_,trivial⟩
  dsimp only
  rw [hbs]
  (refine Vw.drop (by repeat (first | exact zu | refine zk rfl rfl rfl ?_ | refine zA rfl ‹_› (zt _ ‹_›) ?_)))
end Go.Proofs.YtdpipdniklognaaGreat
/- Plain: lists of holes that rise. CheckConflict. -/
set_option maxRecDepth 100000
namespace Go.Proofs.YtdpipdniklognaaGreat
variable {r:Rm}
structure OkC (l:List Int) (k:Nat):Prop where
 lo:0≤l.getD k 0
 hi:l.getD k 0≤11
 up:0<k→l.getD (k - 1) 0<l.getD k 0
def zD (l:List Int):List Nat:=l.map Int.toNat
theorem z7t {l:List Int} {k:Nat}:zy (zD l) k=(l.getD k 0).toNat:=by
 unfold zy zD
 simp only [List.getD_eq_getElem?_getD,List.getElem?_map]
 cases l[k]? <;> rfl
theorem z2A {l:List Int}:(zD l).length=l.length:=List.length_map _
theorem z5y {l:List Int} {n:Nat} (h:∀ k,k<n→OkC l k) {k:Nat} (hk:k<n):zy (zD l) k<12:=by
 rw [z7t]
 have:=(h k hk).lo;have:=(h k hk).hi;omega
theorem z7s {l:List Int} {k:Nat} (h:OkC l k):l.getD k 0=Int.ofNat (zy (zD l) k):=by
 rw [z7t]
 have:=h.lo
 simp only [Int.ofNat_eq_natCast];omega
theorem zhk {l:List Int} (h:∀ k,k<l.length→OkC l k):Inc 0 (zD l):=by
 have hlt:∀ d i,i+d+1<l.length→l.getD i 0<l.getD (i+d+1) 0:=fun d=>by
  induction d with
  | zero=>intro i hi;exact (h (i+1) hi).up (Nat.succ_pos _)
  | succ d ih =>
   intro i hi
   have h1:=ih i (by omega)
   have h2:=(h (i+(d+1)+1) hi).up (Nat.succ_pos _)
   rw [show i+(d+1)+1 - 1=i+d+1 by omega] at h2
   omega
 refine zhM ?_ fun x hx=>?_
 ·rw [List.pairwise_iff_getElem]
  intro i j hi hj hij
  have e:∀ k (hk:k<(zD l).length),(zD l)[k]=zy (zD l) k:=fun k hk=>(z0f hk).symm
  rw [z2A] at hi hj
  rw [e,e,z7t,z7t]
  have h1:=hlt (j - i - 1) i (by omega)
  rw [show i+(j - i - 1)+1=j by omega] at h1
  have:=(h i hi).lo
  have:=(h j hj).lo
  omega
 ·obtain ⟨k,hk,e⟩:=z0I (d:=0) hx
  rw [z2A] at hk
  have:=z5y h hk
  rw [show zy (zD l) k=x from e] at this
  exact ⟨Nat.zero_le _,this⟩
theorem zjM {l:List Int} (h:∀ k,k<l.length→OkC l k):l=(zD l).map Int.ofNat:=by
 refine List.ext_getElem (by rw [List.length_map,z2A]) fun k h1 h2=>?_
 rw [List.getElem_map,←z0f (d:=0) h1,z7s (h k h1)]
 exact congrArg Int.ofNat (z0f (d:=0) (by rw [z2A];exact h1))
open Classical in
noncomputable def zis (h:Hp) (p:Int) (l:List Int):Int :=
 if ppE h p=0 then
  (if ∀ k,k<l.length→OkC l k then
   (bif zV (z3R h p) (zT (zD l)) then
    (if ∃ k,k<l.length∧zV (z3R h p) (zT (zD l) ^^^ (zT (zD l) &&& 1 <<< zy (zD l) k))=true then 54 else 0) else 54) else 54) else ppE h p
theorem zir {h:Hp} {p:Int} {l:List Int} (e:¬ ppE h p=0):zis h p l=ppE h p:=if_neg e
theorem zeJ {h:Hp} {p:Int} {l:List Int} (e:ppE h p=0) (g:¬ ∀ k,k<l.length→OkC l k):zis h p l=54:=by unfold zis;rw [if_pos e,if_neg g]
theorem ziq {h:Hp} {p:Int} {l:List Int} (e:ppE h p=0) (g:zV (z3R h p) (zT (zD l))=false):zis h p l=54:=by
 unfold zis
 rw [if_pos e,g]
 split <;> rfl
theorem zio {h:Hp} {p:Int} {l:List Int} {k:Nat} (e:ppE h p=0) (hk:k<l.length) (g:zV (z3R h p) (zT (zD l) ^^^ (zT (zD l) &&& 1 <<< zy (zD l) k))=true):zis h p l=54:=by
 have hx:∃ k,k<l.length∧zV (z3R h p) (zT (zD l) ^^^ (zT (zD l) &&& 1 <<< zy (zD l) k))=true:=⟨k,hk,g⟩
 unfold zis
 rw [if_pos e]
 by_cases c:∀ k,k<l.length→OkC l k
 ·rw [if_pos c,if_pos hx]
  cases zV (z3R h p) (zT (zD l)) <;> rfl
 ·rw [if_neg c]
theorem zl5 {h:Hp} {p:Int} {l:List Int} (e:ppE h p=0) (g1:∀ k,k<l.length→OkC l k) (g2:zV (z3R h p) (zT (zD l))=true) (g3:∀ k,k<l.length→zV (z3R h p) (zT (zD l) ^^^ (zT (zD l) &&& 1 <<< zy (zD l) k))=false):zis h p l=0:=by
 unfold zis
 rw [if_pos e,if_pos g1,g2,cond_true,if_neg]
 rintro ⟨k,hk,h1⟩
 rw [g3 k hk] at h1;cases h1
end Go.Proofs.YtdpipdniklognaaGreat
/- Walks: CheckConflict of both sides. -/
set_option maxRecDepth 100000
namespace Go.Proofs.YtdpipdniklognaaGreat
variable {r:Rm}
theorem zkB {l:List Int} {k:Nat} (h:OkC l k):wth (l.getD k 0) 0 11=true:=by
 unfold wth
 rw [Bool.and_eq_true,decide_eq_true_iff,decide_eq_true_iff];exact ⟨h.lo,h.hi⟩
theorem zhl {l:List Int} {k:Nat} (h:wth (l.getD k 0) 0 11=true) (hu:0<k→l.getD (k - 1) 0<l.getD k 0):OkC l k:=by
 unfold wth at h
 rw [Bool.and_eq_true,decide_eq_true_iff,decide_eq_true_iff] at h
 exact ⟨h.1,h.2,hu⟩
set_option maxHeartbeats 8000000 in
theorem z6h {h:Hp} {p:Int} {b:Bool} {l:List Int} (hz:SzH h) (hl:l.length<9223372036854775808):VP (sE r) 30 [.agg ((eHp h).map .p),iv p,.p (z7h b l)] (iv (zis h p l)):=by
 have hc:=z8d (r:=r) (p:=p) hz
 rcases z7o h p with ⟨hO,e⟩ | e
 rotate_left
 ·rw [zir (zfq e)]
  refine VP.of (fn:=Tryz.f30) za (zH rfl) (by kernel_rfl) rfl rfl rfl ?_
  refine VSt.go za false [] 200 rfl AllP.n ?_
  refine zb (z00 0 (eHp h) rfl rfl) ?_
  refine VSt.go za false [] 200 rfl AllP.n ?_
  refine VSt.pc rfl rfl rfl rfl rfl rfl rfl rfl (hc) ?_
  refine VSt.go za false [] 200 rfl AllP.n ?_
  refine VSt.cond rfl (fun _=>?_) (fun q=>absurd (q.symm.trans e) (by decide))
  refine VSt.go za false [] 200 rfl AllP.n ?_
  exact EndsP.mk rfl rfl rfl rfl
 have e2:=e
 rw [e] at hc
 have hrun:=z5n hO p
 refine VP.of (fn:=Tryz.f30) za (zH rfl) (by kernel_rfl) rfl rfl rfl ?_
 refine VSt.go za false [] 200 rfl AllP.n ?_
 refine zb (z00 0 (eHp h) rfl rfl) ?_
 refine VSt.go za false [] 200 rfl AllP.n ?_
 refine VSt.pc rfl rfl rfl rfl rfl rfl rfl rfl (hc) ?_
 refine VSt.go za false [] 200 rfl AllP.n ?_
 refine VSt.cond rfl (fun q=>absurd q (by decide)) (fun _=>?_)
 refine VSt.go za false [] 200 rfl AllP.n ?_
 refine z09 (ti:=9) l.length [1,2,3] (fun k=>[(8,iv (Int.ofNat (zT ((zD l).take k))))]) (fun _=>[]) (fun k=>∀ q,q<k→OkC l q) rfl rfl (z0L rfl (AImp.refl _) z0l) trivial none0 (fun k hk hp=>?_)
 refine VSt.go za false [] 200 rfl AllP.n ?_
 refine VSt.cond rfl (fun g=>?_) (fun g=>?_)
 ·have g:=nlt g
  refine VSt.go za false [] 200 rfl (AllP.c ‹_› (AllP.c rfl AllP.n)) ?_
  refine z0E rfl rfl rfl rfl rfl rfl rfl rfl ((z6L _ _ _)) ?_
  refine VSt.go za false [] 200 rfl AllP.n ?_
  refine zl 30 rfl (fun a3=>?_) (fun a3=>?_)
  ·have a3:(!wth (l.getD k 0) 0 11)=true:=a3
   refine VSt.go za false [] 200 rfl AllP.n ?_
   refine EndsP.mk rfl rfl rfl ?_
   rw [zeJ e2 fun n=>by rw [zkB (n k g)] at a3;cases a3];rfl
  have a3:(!wth (l.getD k 0) 0 11)=false:=a3
  rw [Bool.not_eq_false'] at a3
  refine VSt.go za false [] 200 rfl AllP.n ?_
  refine zl 33 rfl (fun a4=>?x1) (fun a4=>?x2)
  case' x1 =>
   have h0:=n0 a4
   refine VSt.go za false [37] 200 rfl (AllP.c (by unfold inR;(try simp only [Int.ofNat_eq_natCast]);omega) AllP.n) ?_
   refine z02 36 (nv (k - 1)) rfl (z6i h0) ?_
   refine VSt.go za false [] 200 rfl (AllP.c (by omega) (AllP.c rfl (AllP.c ‹_› (AllP.c rfl AllP.n)))) ?_
   refine VSt.cond rfl (fun a5=>?_) (fun a5=>?_)
   ·have a5:l.getD k 0≤l.getD (k - 1) 0:=of_decide_eq_true a5
    refine VSt.go za false [] 200 rfl AllP.n ?_
    refine EndsP.mk rfl rfl rfl ?_
    rw [zeJ e2 fun n=>by have:=(n k g).up h0;omega];rfl
   have hu:0<k→l.getD (k - 1) 0<l.getD k 0:=fun _=>by have a5:¬ l.getD k 0≤l.getD (k - 1) 0:=of_decide_eq_false a5;omega
  case' x2 =>
   have hu:0<k→l.getD (k - 1) 0<l.getD k 0:=fun h=>absurd (n0' a4) (by omega)
  all_goals
   have hok:=zhl a3 hu
   have hp2:=z0e hp hok
   have h12:=z5y hp2 (Nat.lt_succ_self k)
   have h64:zy (zD l) k<64:=by omega
   have hsh:1 <<< zy (zD l) k<9223372036854775808:=by
    rw [Nat.one_shiftLeft];exact Nat.lt_of_lt_of_le (Nat.pow_lt_pow_right (by decide) h12) (by decide)
   have hst:zT ((zD l).take k)<9223372036854775808:=Nat.lt_of_lt_of_le (z6f _ fun x hx=>by
    obtain ⟨q,hq,e⟩:=z0I (d:=0) hx
    rw [List.length_take] at hq
    have:=z5y hp (show q<k by omega)
    unfold zy at this
    rw [←e]
    simp only [List.getD_eq_getElem?_getD] at this ⊢
    rw [List.getElem?_take,if_pos (by omega)];exact this) (by decide)
   refine VSt.go za false [51] 200 rfl (AllP.c ‹_› (AllP.c rfl AllP.n)) ?_
   refine zw 50 (nv (zy (zD l) k)) rfl (z0K (z7s hok)) ?_
   refine VSt.go za false [] 200 rfl (AllP.c ‹_› (AllP.c ‹_› (AllP.c ‹_› (AllP.c ‹_› (AllP.c (by unfold inR;(try simp only [Int.ofNat_eq_natCast]);omega) AllP.n))))) ?_
   refine ⟨g,?_,hp2⟩
   dsimp only
   rw [zbd (show k<(zD l).length by rw [z2A];exact g)]
   (refine Vw.drop (by repeat (first | exact zu | refine zk rfl rfl rfl ?_ | refine zA rfl ‹_› (zt _ ‹_›) ?_)))
 have g:k=l.length:=by have:=nge g;omega
 subst g
 have hM:=zhr (p:=p) hO
 have hMl:(z94 (y7 h (z1Y h p)) (z1Y h p).length).length≤5040:=Nat.le_trans (zan _) (z5n hO p)
 have hM4:∀ w∈z94 (y7 h (z1Y h p)) (z1Y h p).length,w<4096:=fun w hw=>zaM w ((hM w).1 hw)
 have hmk:=zek (r:=r) (h:=h) (z5n hO p)
 have hh:=zax hM
 generalize z94 (y7 h (z1Y h p)) (z1Y h p).length=M at *
 generalize (zhs (y7 h (z1Y h p)) (z1Y h p).length).isEmpty=mb at *
 have hin:=zhk hp
 have hS:zT (zD l)<4096:=z6f _ fun x hx=>(z4K hin x hx).2
 rw [show (zD l).take l.length=zD l by rw [←z2A (l:=l),List.take_length]]
 refine VSt.go za false [] 200 rfl AllP.n ?_
 refine VSt.pc rfl rfl rfl rfl rfl rfl rfl rfl ((zgU (p:=p) hz hO)) ?_
 refine VSt.go za false [] 200 rfl AllP.n ?_
 refine VSt.pc rfl rfl rfl rfl rfl rfl rfl rfl (hmk) ?_
 refine VSt.go za false [] 200 rfl AllP.n ?_
 refine VSt.pc rfl rfl rfl rfl rfl rfl rfl rfl ((z3b (M:=M) (a:=zT (zD l)) (b:=mb) (by omega) hM4 (by omega))) ?_
 refine VSt.go za false [] 200 rfl AllP.n ?_
 refine VSt.cond rfl (fun q=>?_) (fun q=>?_)
 ·have q:(!zV M (zT (zD l)))=true:=q
  rw [Bool.not_eq_true',hh] at q
  refine VSt.go za false [] 200 rfl AllP.n ?_
  refine EndsP.mk rfl rfl rfl ?_
  rw [ziq e2 q];rfl
 have q:(!zV M (zT (zD l)))=false:=q
 rw [Bool.not_eq_false',hh] at q
 refine VSt.go za false [] 200 rfl AllP.n ?_
 refine z09 (ti:=11) l.length [2,8,10] (fun _=>[]) (fun _=>[]) (fun k=>∀ q,q<k→zV (z3R h p) (zT (zD l) ^^^ (zT (zD l) &&& 1 <<< zy (zD l) q))=false) rfl rfl z0l trivial none0 (fun k hk hq=>?_)
 refine VSt.go za false [] 200 rfl AllP.n ?_
 refine VSt.cond rfl (fun g=>?_) (fun g=>?_)
 ·have g:=nlt g
  have h12:=z5y hp g
  have h64:zy (zD l) k<64:=by omega
  have hsh:1 <<< zy (zD l) k<9223372036854775808:=by
   rw [Nat.one_shiftLeft];exact Nat.lt_of_lt_of_le (Nat.pow_lt_pow_right (by decide) h12) (by decide)
  have hbit:(zT (zD l)).testBit (zy (zD l) k)=true:=by
   rw [ze2,List.contains_iff_mem];exact z0J (by rw [z2A];exact g)
  have hsub:=zlu hS h12 hbit
  have hle:1 <<< zy (zD l) k≤zT (zD l):=by
   rw [Nat.one_shiftLeft];exact Nat.ge_two_pow_of_testBit hbit
  have hxl:zT (zD l) ^^^ (zT (zD l) &&& 1 <<< zy (zD l) k)<9223372036854775808:=by rw [←hsub];exact Nat.lt_of_le_of_lt (Nat.sub_le _ _) (Nat.lt_trans hS (by decide))
  refine VSt.go za false [73] 200 rfl (AllP.c ‹_› (AllP.c rfl AllP.n)) ?_
  refine zw 72 (nv (zy (zD l) k)) rfl (z0K (z7s (hp k g))) ?_
  refine VSt.go za false [75] 200 rfl (AllP.c ‹_› (AllP.c ‹_› (AllP.c (by unfold inR;(try simp only [Int.ofNat_eq_natCast]);omega) AllP.n))) ?_
  refine zw 74 (nv (zT (zD l) ^^^ (zT (zD l) &&& 1 <<< zy (zD l) k))) rfl (z0K (by rw [←hsub];exact (Int.ofNat_sub hle).symm)) ?_
  refine VSt.go za false [] 200 rfl AllP.n ?_
  refine VSt.pc rfl rfl rfl rfl rfl rfl rfl rfl ((z3b (M:=M) (b:=mb) (by omega) hM4 hxl)) ?_
  refine VSt.go za false [] 200 rfl AllP.n ?_
  refine VSt.cond rfl (fun h1=>?_) (fun h1=>?_)
  ·have h1:zV M (zT (zD l) ^^^ (zT (zD l) &&& 1 <<< zy (zD l) k))=true:=h1
   rw [hh] at h1
   refine VSt.go za false [] 200 rfl AllP.n ?_
   refine EndsP.mk rfl rfl rfl ?_
   rw [zio e2 g h1];rfl
  ·have h1:zV M (zT (zD l) ^^^ (zT (zD l) &&& 1 <<< zy (zD l) k))=false:=h1
   rw [hh] at h1
   refine VSt.go za false [] 200 rfl (AllP.c (by unfold inR;(try simp only [Int.ofNat_eq_natCast]);omega) AllP.n) ?_
   exact ⟨g,by (refine Vw.drop (by repeat (first | exact zu | refine zk rfl rfl rfl ?_ | refine zA rfl ‹_› (zt _ ‹_›) ?_))),z0e hq h1⟩
 ·have g:k=l.length:=by have:=nge g;omega
  subst g
  refine VSt.go za false [] 200 rfl AllP.n ?_
  refine EndsP.mk rfl rfl rfl ?_
  rw [zl5 e2 hp q hq];rfl
end Go.Proofs.YtdpipdniklognaaGreat
/- Walks: the program's CheckConflict. -/
set_option maxRecDepth 100000
namespace Go.Proofs.YtdpipdniklognaaGreat
variable {r:Rm}
set_option maxHeartbeats 8000000 in
theorem z7l {h:Hp} {p:Int} {b:Bool} {l:List Int} (hz:SzH h) (hl:l.length<9223372036854775808):VP (sE r) 29 [.agg ((eHp h).map .p),iv p,.p (z7h b l)] (iv (zis h p l)):=by
 have hc:=z9p (r:=r) (p:=p) hz
 rcases z7o h p with ⟨hO,e⟩ | e
 rotate_left
 ·rw [zir (zfq e)]
  refine VP.of (fn:=Tryz.f29) za (zH rfl) (by kernel_rfl) rfl rfl rfl ?_
  refine VSt.go za false [] 200 rfl AllP.n ?_
  refine zb (z00 0 (eHp h) rfl rfl) ?_
  refine VSt.go za false [] 200 rfl AllP.n ?_
  refine VSt.pc rfl rfl rfl rfl rfl rfl rfl rfl (hc) ?_
  refine VSt.go za false [] 200 rfl AllP.n ?_
  refine VSt.cond rfl (fun _=>?_) (fun q=>absurd (q.symm.trans e) (by decide))
  refine VSt.go za false [] 200 rfl AllP.n ?_
  exact EndsP.mk rfl rfl rfl rfl
 have e2:=e
 rw [e] at hc
 refine VP.of (fn:=Tryz.f29) za (zH rfl) (by kernel_rfl) rfl rfl rfl ?_
 refine VSt.go za false [] 200 rfl AllP.n ?_
 refine zb (z00 0 (eHp h) rfl rfl) ?_
 refine VSt.go za false [] 200 rfl AllP.n ?_
 refine VSt.pc rfl rfl rfl rfl rfl rfl rfl rfl (hc) ?_
 refine VSt.go za false [] 200 rfl AllP.n ?_
 refine VSt.cond rfl (fun q=>absurd q (by decide)) (fun _=>?_)
 refine VSt.go za false [] 200 rfl AllP.n ?_
 refine z0W za l.length (by omega) [1,2,3,20] (fun _=>[]) (fun _=>[]) (fun k=>∀ q,q<k→OkC l q) rfl rfl rfl (fun _=>rfl) rfl rfl z0l trivial none0 (fun k g hp=>?_) (fun hp=>?_)
 ·refine VSt.go za false [] 200 rfl (AllP.c ‹_› (AllP.c rfl AllP.n)) ?_
  refine VSt.pc rfl rfl rfl rfl rfl rfl rfl rfl ((zhI _)) ?_
  refine VSt.go za false [] 200 rfl AllP.n ?_
  refine zi 30 rfl (fun a3=>?_) (fun a3=>?_)
  ·have a3:(!wth (l.getD k 0) 0 11)=true:=a3
   refine VSt.go za false [] 200 rfl AllP.n ?_
   refine EndsP.mk rfl rfl rfl ?_
   rw [zeJ e2 fun n=>by rw [zkB (n k g)] at a3;cases a3];rfl
  have a3:(!wth (l.getD k 0) 0 11)=false:=a3
  rw [Bool.not_eq_false'] at a3
  refine VSt.go za false [] 200 rfl AllP.n ?_
  refine zi 33 rfl (fun a4=>?_) (fun a4=>?_)
  ·have h0:=n0 a4
   refine VSt.go za false [37] 200 rfl (AllP.c (by unfold inR;(try simp only [Int.ofNat_eq_natCast]);omega) AllP.n) ?_
   refine zw 36 (nv (k - 1)) rfl (z6i h0) ?_
   refine VSt.go za false [] 200 rfl (AllP.c (by omega) (AllP.c rfl AllP.n)) ?_
   refine VSt.cond rfl (fun a5=>?_) (fun a5=>?_)
   ·have a5:l.getD k 0≤l.getD (k - 1) 0:=of_decide_eq_true a5
    refine VSt.go za false [] 200 rfl AllP.n ?_
    refine EndsP.mk rfl rfl rfl ?_
    rw [zeJ e2 fun n=>by have:=(n k g).up h0;omega];rfl
   have hu:0<k→l.getD (k - 1) 0<l.getD k 0:=fun _=>by have a5:¬ l.getD k 0≤l.getD (k - 1) 0:=of_decide_eq_false a5;omega
   refine VSt.go za false [] 200 rfl AllP.n ?_
   exact ⟨by (refine Vw.drop (by repeat (first | exact zu | refine zk rfl rfl rfl ?_ | refine zA rfl ‹_› (zt _ ‹_›) ?_))),z0e hp (zhl a3 hu)⟩
  ·have hu:0<k→l.getD (k - 1) 0<l.getD k 0:=fun h=>absurd (n0' a4) (by omega)
   refine VSt.go za false [] 200 rfl AllP.n ?_
   exact ⟨by (refine Vw.drop (by repeat (first | exact zu | refine zk rfl rfl rfl ?_ | refine zA rfl ‹_› (zt _ ‹_›) ?_))),z0e hp (zhl a3 hu)⟩
 have hin:=zhk hp
 have hS:zT (zD l)<4096:=z6f _ fun x hx=>(z4K hin x hx).2
 have hS2:zT (zD l)<9223372036854775808:=Nat.lt_trans hS (by decide)
 have hnl:=z6t hin (by decide)
 have hset:=zgM (r:=r) (b:=b) (l:=zD l) (by omega) fun x hx=>(z4K hin x hx).2
 unfold zQ at hset
 rw [←zjM hp] at hset
 have hM:∀ w∈z3R h p,w<9223372036854775808:=fun w hw=>Nat.lt_trans (zaM w hw) (by decide)
 refine VSt.go za false [] 200 rfl AllP.n ?_
 refine VSt.cc [] rfl rfl rfl rfl rfl rfl rfl rfl rfl rfl rfl (zcj (h:=h) (p:=p) hz hO) ?_
 rintro a L' ⟨rfl,rfl⟩
 refine VSt.go za false [] 200 rfl AllP.n ?_
 refine VSt.pc rfl rfl rfl rfl rfl rfl rfl rfl (hset) ?_
 refine VSt.go za false [] 200 rfl AllP.n ?_
 refine ziT rfl rfl (PureR.call rfl rfl rfl (fun S Z j vs hS hv=>z7A hS hv rfl hS2 hM)) ?_
 refine VSt.go za false [] 200 rfl AllP.n ?_
 refine VSt.cond rfl (fun q=>?_) (fun q=>?_)
 ·have q:(!zV (z3R h p) (zT (zD l)))=true:=q
  rw [Bool.not_eq_true'] at q
  refine VSt.go za false [] 200 rfl AllP.n ?_
  refine EndsP.mk rfl rfl rfl ?_
  rw [ziq e2 q];rfl
 have q:(!zV (z3R h p) (zT (zD l)))=false:=q
 rw [Bool.not_eq_false'] at q
 refine VSt.go za false [] 200 rfl AllP.n ?_
 refine z0W za l.length (by omega) [10,11,53] (fun _=>[]) (fun _=>[(0,.mapA none (zcv (z3R h p)) [])]) (fun k=>∀ q,q<k→zV (z3R h p) (zT (zD l) ^^^ (zT (zD l) &&& 1 <<< zy (zD l) q))=false) rfl rfl rfl (fun _=>rfl) rfl rfl z0l (LImp.refl _) none0 (fun k g hq=>?_) (fun hq=>?_)
 ·have h12:=z5y hp g
  have h64:zy (zD l) k<64:=by omega
  have hsh:1 <<< zy (zD l) k<9223372036854775808:=by
   rw [Nat.one_shiftLeft];exact Nat.lt_of_lt_of_le (Nat.pow_lt_pow_right (by decide) h12) (by decide)
  have hxl:zT (zD l) ^^^ (zT (zD l) &&& 1 <<< zy (zD l) k)<9223372036854775808:=Nat.lt_trans (Nat.xor_lt_two_pow (n:=12) hS (Nat.lt_of_le_of_lt Nat.and_le_left hS)) (by decide)
  refine VSt.go za false [62] 200 rfl (AllP.c ‹_› (AllP.c rfl AllP.n)) ?_
  refine zw 61 (nv (zy (zD l) k)) rfl (z0K (z7s (hp k g))) ?_
  refine VSt.go za false [] 200 rfl (AllP.c ‹_› (AllP.c ‹_› (AllP.c ‹_› (AllP.c ‹_› AllP.n)))) ?_
  refine ziT rfl rfl (PureR.call rfl rfl rfl (fun S Z j vs hS hv=>z7A hS hv rfl hxl hM)) ?_
  refine VSt.go za false [] 200 rfl AllP.n ?_
  refine VSt.cond rfl (fun h1=>?_) (fun h1=>?_)
  ·have h1:zV (z3R h p) (zT (zD l) ^^^ (zT (zD l) &&& 1 <<< zy (zD l) k))=true:=h1
   refine VSt.go za false [] 200 rfl AllP.n ?_
   refine EndsP.mk rfl rfl rfl ?_
   rw [zio e2 g h1];rfl
  ·have h1:zV (z3R h p) (zT (zD l) ^^^ (zT (zD l) &&& 1 <<< zy (zD l) k))=false:=h1
   refine VSt.go za false [] 200 rfl AllP.n ?_
   refine ⟨?_,z0e hq h1⟩
   refine z1a (ps:=[(0,0)]) ⟨rfl,rfl,(by repeat (first | exact zu | refine zk rfl rfl rfl ?_)),_,rfl,(⟨rfl,BImp.refl _,trivial⟩)⟩
 ·refine VSt.go za false [] 200 rfl AllP.n ?_
  refine EndsP.mk rfl rfl rfl ?_
  rw [zl5 e2 hp q hq];rfl
end Go.Proofs.YtdpipdniklognaaGreat
/- The law LeafConflicts. -/
set_option maxRecDepth 100000
namespace Go.Proofs.YtdpipdniklognaaGreat
variable {r:Rm}
theorem zmK {h:Hp} {p:Int}:(cfV h p).length<9223372036854775808:=by
 by_cases e:ppE h p=0
 ·rw [(zdC e).2]
  have:=zdE (B:=z3R h p) 4096
  generalize bst (z3R h p) 4096=row at *
  cases zV (z3R h p) 4095 with
  | true=>rw [cond_true,List.length_map];omega
  | false=>show ([]:List Int).length<_;decide
 ·rw [show cfV h p=[] from if_neg e];decide
set_option maxHeartbeats 8000000 in
theorem z6p {t:Tr (List Value×TypeId)} {h:Hp} {b:Bool} {o:List Int} {p:Int} (hz:SzH h) (ho:o.length<9223372036854775808):VP (sE (t,true)) 4 [.agg ((eHp h).map .p),iv p,.p (z7h b o)] (bv true):=by
 refine VP.of (fn:=Tryz.f4) za (zH rfl) (by kernel_rfl) rfl rfl rfl ?_
 refine VSt.go za false [] 200 rfl AllP.n ?_
 refine zb (z00 0 (eHp h) rfl rfl) ?_
 refine VSt.go za false [] 200 rfl AllP.n ?_
 refine VSt.pc rfl rfl rfl rfl rfl rfl rfl rfl ((zdL (p:=p) hz)) ?_
 refine VSt.go za false [] 200 rfl AllP.n ?_
 refine VSt.pc rfl rfl rfl rfl rfl rfl rfl rfl ((zbo (p:=p) hz)) ?_
 refine VSt.go za false [] 200 rfl AllP.n ?_
 refine z0E rfl rfl rfl rfl rfl rfl rfl rfl ((zlz (b1:=(cfV h p).isEmpty) (b2:=(cfV h p).isEmpty) (l:=cfV h p) zmK)) ?_
 refine VSt.go za false [] 200 rfl AllP.n ?_
 refine zl 26 rfl (fun q=>?_) (fun q=>?_)
 rotate_left
 ·exact absurd q (by decide)
 refine VSt.go za false [30] 200 rfl AllP.n ?_
 refine z02 29 (bv true) rfl (z04 (by rw [beq_self_eq_true])) ?_
 refine VSt.go za false [] 200 rfl AllP.n ?_
 refine zl 31 rfl (fun q=>?_) (fun q=>?_)
 rotate_left
 ·exact absurd q (by decide)
 refine VSt.go za false [] 200 rfl AllP.n ?_
 refine z0E rfl rfl rfl rfl rfl rfl rfl rfl ((z7l (p:=p) (b:=b) (l:=o) hz ho)) ?_
 refine VSt.go za false [] 200 rfl AllP.n ?_
 refine z0E rfl rfl rfl rfl rfl rfl rfl rfl ((z6h (p:=p) (b:=b) (l:=o) hz ho)) ?_
 refine VSt.go za false [41] 200 rfl AllP.n ?_
 refine z02 40 (bv true) rfl (z04 (by rw [beq_self_eq_true])) ?_
 refine VSt.go za false [] 200 rfl AllP.n ?_
 refine zl 42 rfl (fun q=>?_) (fun q=>?_)
 rotate_left
 ·exact absurd q (by decide)
 refine VSt.go za false [] 200 rfl AllP.n ?_
 refine z0E rfl rfl rfl rfl rfl rfl rfl rfl ((zky rfl)) ?_
 refine VSt.go za false [] 200 rfl AllP.n ?_
 exact EndsP.mk rfl rfl rfl rfl
end Go.Proofs.YtdpipdniklognaaGreat
/- Heaps and sheets as arguments. -/
set_option maxRecDepth 100000
namespace Go.Proofs.YtdpipdniklognaaGreat
noncomputable abbrev sE0:Env:=sE (.nil,true)
theorem z6j:∀ l:List PV,PImps l l
 | []=>trivial
 | a::l=>⟨PImp.refl a,z6j l⟩
theorem z3J {n:Nat} {q:List PV} (h:Sh sE0 (n+1) 3 q):∃ x,q=[.int .i64 x]∧inR x:=by
 obtain ⟨x,h,h2,h3⟩:=Sh.int (k:=.i64) (by kernel_rfl) h
 have h2 : -9223372036854775808≤x:=h2
 have h3:x≤9223372036854775807:=h3
 exact ⟨x,h,h2,by omega⟩
theorem zmT {n:Nat} {q:List PV} (h:Sh sE0 (n+2) 74 q):∃ s:Sht,q=y5 s∧SzS s:=by
 obtain ⟨h1,h2⟩:=Sh.struct (sz:=6) (l:=[(3,0),(3,1),(3,2),(3,3),(3,4),(3,5)]) (by kernel_rfl) h
 match q,h1 with
 | [a,b,c,d,e,f],_ =>
  obtain ⟨x0,k0,_⟩:=z3J (h2 (3,0) (by simp) 1 (by kernel_rfl))
  obtain ⟨x1,k1,_⟩:=z3J (h2 (3,1) (by simp) 1 (by kernel_rfl))
  obtain ⟨x2,k2,_⟩:=z3J (h2 (3,2) (by simp) 1 (by kernel_rfl))
  obtain ⟨x3,k3,_⟩:=z3J (h2 (3,3) (by simp) 1 (by kernel_rfl))
  obtain ⟨x4,k4,r4⟩:=z3J (h2 (3,4) (by simp) 1 (by kernel_rfl))
  obtain ⟨x5,k5,r5⟩:=z3J (h2 (3,5) (by simp) 1 (by kernel_rfl))
  have k0:[a]=_:=k0
  have k1:[b]=_:=k1
  have k2:[c]=_:=k2
  have k3:[d]=_:=k3
  have k4:[e]=_:=k4
  have k5:[f]=_:=k5
  cases k0;cases k1;cases k2;cases k3;cases k4;cases k5
  exact ⟨⟨x0,x1,x2,x3,x4,x5⟩,rfl,r4,r5⟩
theorem zks {n:Nat} {q:List PV} (h:Sh sE0 (n+3) 22 q):∃ (b:Bool) (l:List Sht),PImps q [z1t b l]∧(b=true→l=[])∧l.length<9223372036854775808∧∀ k,k<l.length→SzS (zg l k):=by
 obtain ⟨nb,m,f,rfl,h1,h2,h3⟩:=Sh.slice (e:=74) (by kernel_rfl) h
 obtain ⟨l,rfl,h4⟩:=zaq (default:Sht) (P:=fun k s=>f k=y5 s∧SzS s) fun k hk=>zmT (h3 k hk)
 exact ⟨nb,l,⟨PImp.lst fun k hk=>by rw [(h4 k hk).1];exact z6j _,trivial⟩,fun h=>List.length_eq_zero_iff.1 (h1 h),h2,fun k hk=>(h4 k hk).2⟩
theorem zmU {n:Nat} {q:List PV} (h:Sh sE0 (n+2) 58 q):∃ x:Sew,q=zg4 x:=by
 obtain ⟨h1,h2⟩:=Sh.struct (sz:=2) (l:=[(3,0),(3,1)]) (by kernel_rfl) h
 match q,h1 with
 | [a,b],_ =>
  obtain ⟨x0,k0,_⟩:=z3J (h2 (3,0) (by simp) 1 (by kernel_rfl))
  obtain ⟨x1,k1,_⟩:=z3J (h2 (3,1) (by simp) 1 (by kernel_rfl))
  have k0:[a]=_:=k0
  have k1:[b]=_:=k1
  cases k0;cases k1
  exact ⟨⟨x0,x1⟩,rfl⟩
theorem zkt {n:Nat} {q:List PV} (h:Sh sE0 (n+3) 23 q):∃ (b:Bool) (l:List Sew),PImps q [zdw b l]∧(b=true→l=[])∧l.length<9223372036854775808:=by
 obtain ⟨nb,m,f,rfl,h1,h2,h3⟩:=Sh.slice (e:=58) (by kernel_rfl) h
 obtain ⟨l,rfl,h4⟩:=zaq (default:Sew) (P:=fun k s=>f k=zg4 s) fun k hk=>zmU (h3 k hk)
 exact ⟨nb,l,⟨PImp.lst fun k hk=>by rw [h4 k hk];exact z6j _,trivial⟩,fun h=>List.length_eq_zero_iff.1 (h1 h),h2⟩
theorem zoq {n:Nat} {q:List PV} (h:Sh sE0 (n+4) 25 q):∃ h:Hp,PImps q (eHp h)∧SzH h:=by
 obtain ⟨h1,h2⟩:=Sh.struct (sz:=2) (l:=[(22,0),(23,1)]) (by kernel_rfl) h
 match q,h1 with
 | [a,b],_ =>
  obtain ⟨b1,l1,k1,m1,n1,o1⟩:=zks (h2 (22,0) (by simp) 1 (by kernel_rfl))
  obtain ⟨b2,l2,k2,m2,n2⟩:=zkt (h2 (23,1) (by simp) 1 (by kernel_rfl))
  have k1:PImps [a] _:=k1
  have k2:PImps [b] _:=k2
  exact ⟨⟨l1,b1,l2,b2⟩,⟨k1.1,k2.1,trivial⟩,⟨n1,n2,o1,m1,m2⟩⟩
theorem Sh.array {E:Env} {n:Nat} {t:TypeId} {qs:List PV} {sz w m:Nat} {e:TypeId} (hi:(E.ti.get t).map (fun i=>(i.size,i.desc))=some (sz,.array m e)) (he:(E.ti.get e).map (·.size)=some w) (h:Sh E (n+1) t qs):qs.length=sz∧∀ k,k<m→Sh E n e ((qs.drop (k*w)).take w):=by
 unfold Sh at h
 cases hg:E.ti.get t with
 | none=>rw [hg] at hi;cases hi
 | some i =>
  rw [hg] at hi h
  have hi:(i.size,i.desc)=(sz,.array m e):=Option.some.inj hi
  simp only [Prod.mk.injEq] at hi
  obtain ⟨h1,h2⟩:=hi
  simp only [h2] at h
  obtain ⟨h3,g,h4,h5⟩:=h
  rw [h4] at he
  have he:g.size=w:=Option.some.inj he
  subst he
  exact ⟨h3.trans h1,h5⟩
theorem Shs.two {E:Env} {n:Nat} {a b:TypeId}:∀ {qs:List (List PV)},Shs E n [a,b] qs→∃ q1 q2,qs=[q1,q2]∧Sh E n a q1∧Sh E n b q2
 | [],h=>h.elim
 | [_],h=>h.2.elim
 | [q1,q2],h=>⟨q1,q2,rfl,h.1,h.2.1⟩
 | _::_::_::_,h=>h.2.2.elim
theorem Shs.three {E:Env} {n:Nat} {a b c:TypeId}:∀ {qs:List (List PV)},Shs E n [a,b,c] qs→∃ q1 q2 q3,qs=[q1,q2,q3]∧Sh E n a q1∧Sh E n b q2∧Sh E n c q3
 | [],h=>h.elim
 | [_],h=>h.2.elim
 | [_,_],h=>h.2.2.elim
 | [q1,q2,q3],h=>⟨q1,q2,q3,rfl,h.1,h.2.1,h.2.2.1⟩
 | _::_::_::_::_,h=>h.2.2.2.elim
theorem PImps.one {q:List PV} {p0:PV}:PImps q [p0]→∃ p,q=[p]∧PImp p p0:=match q with
 | []=>fun h=>h.elim
 | [p]=>fun h=>⟨p,rfl,h.1⟩
 | _::_::_=>fun h=>h.2.elim
theorem PImps.two {q:List PV} {p0 p1:PV}:PImps q [p0,p1]→∃ a b,q=[a,b]∧PImp a p0∧PImp b p1:=match q with
 | []=>fun h=>h.elim
 | [p]=>fun h=>h.2.elim
 | [a,b]=>fun h=>⟨a,b,rfl,h.1,h.2.1⟩
 | _::_::_::_=>fun h=>h.2.2.elim
end Go.Proofs.YtdpipdniklognaaGreat
/- The law LeafConflicts holds of what arguments look like. -/
set_option maxRecDepth 100000
namespace Go.Proofs.YtdpipdniklognaaGreat
open Go.ChangeShapes Go.WideShapes Go.RowKit
theorem ziM {n:Nat} {q:List PV} (h:Sh sE0 (n+2) 37 q):∃ (b:Bool) (l:List Int) (f:Nat→List PV),q=[.lst 3 b l.length f]∧PImps q [z7h b l]∧l.length<9223372036854775808:=by
 obtain ⟨nb,m,f,rfl,h1,h2,h3⟩:=Sh.slice (e:=3) (by kernel_rfl) h
 obtain ⟨l,rfl,h4⟩:=zaq (0:Int) (P:=fun k x=>f k=[.int .i64 x]) fun k hk=>let ⟨x,h,_⟩:=Sh.int (k:=.i64) (by kernel_rfl) (h3 k hk);⟨x,h⟩
 exact ⟨nb,l,f,rfl,⟨PImp.lst fun k hk=>by rw [h4 k hk];exact ⟨PImp.refl _,trivial⟩,trivial⟩,h2⟩
theorem z98 (r:Tr (List Value×TypeId)) (qs:List (List PV)) (h:Shs sE0 9 Tryz.f4.params.toList qs):VP (sE (r,true)) 4 (z9T sE0 Tryz.f4.params.toList qs) (.p (.bool true)):=by
 have e:Tryz.f4.params.toList=[25,3,37]:=rfl
 rw [e] at h ⊢
 obtain ⟨q1,q2,q3,rfl,g1,g2,g3⟩:=Shs.three h
 obtain ⟨hp,h1,hz⟩:=zoq (n:=5) g1
 obtain ⟨a,rfl,_⟩:=z3J (n:=8) g2
 obtain ⟨bo,o,f,rfl,h3,ho⟩:=ziM (n:=7) g3
 have e2:z9T sE0 [25,3,37] [q1,[.int .i64 a],[.lst 3 bo o.length f]]=[.agg (q1.map .p),iv a,.p (.lst 3 bo o.length f)]:=by
  show [zdG _ _ _,zdG _ _ _,zdG _ _ _]=_
  unfold zdG
  rw [show zna sE0 25=true by kernel_rfl,show zna sE0 3=false by kernel_rfl,show zna sE0 37=false by kernel_rfl];rfl
 rw [e2]
 exact VP.imp (z6p (b:=bo) (p:=a) hz ho) ⟨zj3 h1,AImp.refl _,PImp.toA h3.1,trivial⟩
theorem zpk:ownKnob Tryz.checked.prog.godebug=none:=by kernel_rfl
theorem z7i (os:Os) (started:os.Started) (H:Type) (enc:TypeId×Value→H) :
  ReturnsInHanded {} Tryz.checked os 4 .any (Rows.leafConflictsSpec.pre6 enc Tryz.checked.prog Tryz.f4 [] false) (Rows.leafConflictsSpec.post enc Tryz.checked.prog Tryz.f4 false Rows.leafConflictsRow.fresh Rows.leafConflictsRow.handsOn Rows.leafConflictsRow.again):=by
 refine zfA (E:=sE0) (m:=9) (tb:=4) zpk started (by kernel_rfl) (by kernel_rfl)
  (ChangeSpec.witness6 (enc:=enc) (C:=Tryz.checked) false ⟨#[],#[.agg #[.slice none 0 0,.slice none 0 0],.int .i64 0,.slice none 0 0],[]⟩ 20 (by kernel_rfl) (by kernel_rfl) (by kernel_rfl) (by kernel_rfl))
  (of_decide_eq_true (by kernel_rfl)) (fun r=>zoR (r,true)) (by kernel_rfl) (by kernel_rfl) (by kernel_rfl) (by kernel_rfl) (by kernel_rfl) rfl ?_ z98
 intro ds hds
 have:ds.length=3:=hds
 match ds,this with
 | [d1,d2,d3],_=>exact ⟨rfl,rfl,rfl⟩
theorem conflicts_holds:Rows.LeafConflictsSaid :=
 OpenClaim.holds_of_wide 4 Tryz.f4 rfl rfl rfl rfl rfl rfl rfl ⟨rfl,rfl,rfl,rfl,rfl⟩ rfl rfl rfl rfl rfl (by kernel_rfl) (by kernel_rfl) (by kernel_rfl)
  (of_decide_eq_true (by kernel_rfl)) (by unfold Func.isWrapper;first | (rw [if_pos (by decide +kernel)];kernel_rfl) | (rw [if_neg (by decide +kernel)];exact ⟨rfl,rfl⟩))
  (fun os started H enc _=>z7i os started H enc)
end Go.Proofs.YtdpipdniklognaaGreat
