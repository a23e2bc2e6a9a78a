/- The program's ChestMore returns true for all numbers without an exception and without changing its arguments: a part of the proof. -/
import Derived.Test.YtbieflpgjmgaiaaGreatVs
import Derived.Test.YtbieflpgjmgaiaaGreatVe
import Derived.Test.YtbieflpgjmgaiaaGreatVt
set_option linter.all false
/- Walks: openings copied; where one is; openings without one. -/
set_option maxRecDepth 100000
namespace Go.Proofs.YtbieflpgjmgaiaaGreat
open Kuhn
variable {r:Rm}
theorem VP.to {E:Env} {f:FuncId} {args:List AV} {a b:AV} (h:VP E f args a) (hi:AImp a b) (ho:b.only (fun _=>false)=true):VP E f args b:=⟨ho,fun S Z j vs h1 h2 h3=>by
 obtain ⟨n,v,S',k1,a',L',Z',j',k2,k3,k4,k5,k6,rfl,rfl⟩:=h.2 S Z j vs h1 h2 h3
 exact ⟨n,v,S',k1,b,[],Z',j',k2,hi _ _ _ _ _ k3,k4,k5,k6,rfl,rfl⟩⟩
theorem cloneN_ok {l:List Int}:VP (sE r) 109 [.p (eInts true l)] (.p (.lst 0 true 0 fun _=>[])):=by
 refine VP.of (fn:=Tryz.f109) tb_ok (wk_ok rfl) (by kernel_rfl) rfl rfl rfl ?_
 refine VSt.go tb_ok false [] 200 rfl AllP.n ?_
 refine VSt.cond rfl (fun h=>?_) (fun h=>absurd h (by decide))
 refine VSt.go tb_ok false [] 200 rfl AllP.n ?_
 exact EndsP.mk rfl rfl rfl rfl
theorem VP.nil0 {E:Env} {f:FuncId} {ty n:Nat} {g:Nat→List PV} {a:AV} (ho:a.only (fun _=>false)=true) (h:n=0→VP E f [.p (.lst ty true n g)] a):VP E f [.p (.lst ty true n g)] a:=⟨ho,fun S Z j vs h1 h2 h3=>by
 cases h2 with
 | cons k1 k2=>cases k1 with
  | p k1=>cases k1 with
   | nil=>exact (h rfl).2 S Z j _ h1 (.cons (.p (.nil _ _)) k2) h3⟩
theorem cloneP_ok {b:Bool} {l:List Int} (hn:l.length<1000000):VP (sE r) 109 [.p (eInts b l)] (.p (eInts b l)):=by
 cases b with
 | true=>exact VP.nil0 rfl fun e=>VP.to cloneN_ok (by rw [List.length_eq_zero_iff.1 e];exact AImp.nil) rfl
 | false =>
  refine VP.of (fn:=Tryz.f109) tb_ok (wk_ok rfl) (by kernel_rfl) rfl rfl rfl ?_
  refine VSt.go tb_ok false [] 200 rfl AllP.n ?_
  refine VSt.cond rfl (fun h=>absurd h (by decide)) (fun _=>?_)
  by_cases h0:l.length=0
  ·refine VSt.go tb_ok true [2] 200 rfl (AllP.c ‹_› AllP.n) ?_
   refine VSt.viewO (Vw.kp [7] [(0,0)] rfl) ?_
   refine VSt.viewO (Vw.freeze 0 rfl rfl ⟨Nat.le_refl _,Nat.le_refl _,rfl⟩) ?_
   refine VSt.putO 7 (.p (eInts false l)) rfl (cp_nil h0) ?_
   refine VSt.go tb_ok false [] 200 rfl AllP.n ?_
   exact EndsP.mk rfl rfl rfl rfl
  ·refine VSt.go tb_ok false [2] 200 rfl (AllP.c (by omega) (AllP.c (by omega) (AllP.c (fun _ _=>rfl) (AllP.c rfl (AllP.c rfl (AllP.c (by omega) (AllP.c (by omega) AllP.n))))))) ?_
   refine VSt.viewO (Vw.kp [7] [(1,1)] rfl) ?_
   refine VSt.viewO (Vw.freeze 1 rfl rfl ⟨Nat.le_of_eq (Nat.zero_add _),Nat.le_refl _,rfl⟩) ?_
   refine VSt.putO 7 (.p (eInts false l)) rfl cp_imp ?_
   refine VSt.go tb_ok false [] 200 rfl AllP.n ?_
   exact EndsP.mk rfl rfl rfl rfl
set_option maxHeartbeats 4000000 in
theorem copyOne_ok {o:Opn} (hz:Sz o):VP (sE r) 95 [.agg ((eOpn o).map .p)] (.agg ((eOpn o).map .p)):=by
 have h1:=hz.inn
 have h2:=hz.out
 refine VP.of (fn:=Tryz.f95) tb_ok (wk_ok rfl) (by kernel_rfl) rfl rfl rfl ?_
 refine VSt.go tb_ok false [] 200 rfl AllP.n ?_
 refine VSt.pcD rfl rfl rfl rfl rfl rfl rfl rfl ((cloneP_ok (b:=o.inB) (l:=o.inn) h1)) ?_
 refine VSt.go tb_ok false [] 200 rfl AllP.n ?_
 refine VSt.pcD rfl rfl rfl rfl rfl rfl rfl rfl ((cloneP_ok (b:=o.outB) (l:=o.out) h2)) ?_
 refine VSt.go tb_ok false [] 200 rfl AllP.n ?_
 exact EndsP.mk rfl rfl rfl rfl
set_option maxHeartbeats 4000000 in
theorem copied_ok {b:Bool} {l:List Opn} (hz:Szs l):VC (sE r) [] 94 [.agg [.p (eOpns b l)]] [] (fun a L=>a = .acc true 0 9 l.length∧L=[(0,.acc l.length 9 (fO l) 45)]):=by
 have hn:=hz.len
 refine VC.of (fn:=Tryz.f94) tb_ok (wk_ok rfl) (by kernel_rfl) rfl rfl ?_
 refine VSt.go tb_ok false [] 200 rfl AllP.n ?_
 refine VSt.viewC (Vw.adopt 1 9 (fO []) 45 rfl) ?_
 refine VSt.viewC (Vw.kp [3,7,8,9] [(0,1)] rfl) ?_
 refine VSt.rangeT tb_ok l.length (by omega) [7] (fun k=>[(3,.acc true 0 9 (l.take k).length)]) (fun k=>[(0,.acc (l.take k).length 9 (fO (l.take k)) 45)]) (fun _=>True) rfl rfl rfl (fun _=>rfl) rfl rfl (u0_cons rfl AImp.nilAcc u0_nil) (LImp.refl _) trivial (fun k hk _=>?_) (fun _=>?_)
 ·have hlen:(l.take k).length=k:=by rw [List.length_take];omega
  have e:=take_nth hk
  have hN:=congrArg List.length e
  rw [List.length_append,List.length_singleton] at hN
  refine VSt.go tb_ok false [5] 200 rfl (AllP.c ‹_› (AllP.c rfl AllP.n)) ?_
  refine VSt.aside (eOpn (nth l k)) tb_ok rfl rfl rfl rfl rfl rfl rfl rfl rfl rfl rfl ?_
  refine VSt.go tb_ok false [] 200 rfl AllP.n ?_
  refine VSt.pc rfl rfl rfl rfl rfl rfl rfl rfl ((copyOne_ok (hz.each k hk))) ?_
  refine VSt.go tb_ok false [] 200 rfl (AllP.c (by omega) (AllP.c (by omega) (AllP.c (fun q hq=>match q,hq with | 0,_=>rfl) (AllP.c rfl (AllP.c rfl (AllP.c rfl AllP.n)))))) ?_
  refine ⟨?_,trivial⟩
  exact Wk.vw (ps:=[(0,1)]) ⟨rfl,rfl,(by repeat (first | exact wf_nil | refine wf_back rfl rfl rfl ?_ | refine wf_imp rfl rfl (AImp.acc hN.symm (fun _=>rfl)) ?_)),_,rfl,⟨rfl,BImp.acc hN.symm (fun x hx=>by rw [e];exact app_opn _ _ _ rfl x hx),trivial⟩⟩
 ·rw [List.take_length]
  refine VSt.go tb_ok false [] 200 rfl AllP.n ?_
  exact ⟨rfl,_,[(0,0)],_,_,rfl,⟨rfl,rfl,wf_imp rfl rfl (AImp.refl _) wf_nil,_,rfl,LImp.refl _⟩,rfl,rfl⟩
theorem PureA.conv {E:Env} {F:VK} {L:VS} {src dst:TypeId} {x:Operand} {ka kc:IntKind} {a c:Int} (hx:av F x=some (.p (.int ka a))) (h:(ob (E.ti.get src) fun _=>ob (E.ti.get dst) fun i=>convD i.desc (.int ka a))=some (.int kc c)):PureA E F L (.convert src dst x) (.p (.int kc c)):=fun T S Z j h2 h3=>by
 obtain ⟨v,h4,h5⟩:=h3.ev hx
 cases h5 with
 | p h5 =>
  cases h5
  refine ⟨.int kc c,fun cF dF=>?_,.p (.int _ _)⟩
  show ob (ob (E.ti.get src) fun _=>ob (T.ev x) fun a=>ob (E.ti.get dst) fun i=>convD i.desc a) (fun v=>some (v,S))=_
  rw [h4]
  show ob (ob (E.ti.get src) fun _=>ob (E.ti.get dst) fun i=>convD i.desc (.int ka a)) (fun v=>some (v,S))=_
  rw [h];rfl
theorem PureA.bin {E:Env} {F:VK} {L:VS} {op:BinOp} {t kd:TypeId} {x y:Operand} {ka kb kc:IntKind} {a b c:Int} (hx:av F x=some (.p (.int ka a))) (hy:av F y=some (.p (.int kb b))) (h:binL E op t (.int ka a) (.int kb b)=some (.int kc c)):PureA E F L (.binOp op t x y kd) (.p (.int kc c)):=fun T S Z j h2 h3=>by
 obtain ⟨v,h4,h5⟩:=h3.ev hx
 obtain ⟨w,h6,h7⟩:=h3.ev hy
 cases h5 with
 | p h5 =>
  cases h5
  cases h7 with
  | p h7 =>
   cases h7
   refine ⟨.int kc c,fun cF dF=>?_,.p (.int _ _)⟩
   show ob (ob (T.ev x) fun a=>ob (T.ev y) fun b=>binL E op t a b) (fun v=>some (v,S))=_
   rw [h4,h6]
   show ob (binL E op t (.int ka a) (.int kb b)) (fun v=>some (v,S))=_
   rw [h];rfl
theorem isNaN_ok (a:Int):VP (sE r) 117 [iv a] (bv false):=by
 refine VP.of (fn:=Tryz.f117) tb_ok (wk_ok rfl) (by kernel_rfl) rfl rfl rfl ?_
 refine VSt.go tb_ok false [] 200 rfl AllP.n ?_
 refine EndsP.mk rfl rfl rfl ?_
 show bv (!(a==a))=_
 rw [beq_self_eq_true];rfl
def cmpI (a b:Int):Int:=if a<b then -1 else if b<a then 1 else 0
theorem compare_ok (a b:Int):VP (sE r) 80 [iv a,iv b] (iv (cmpI a b)):=by
 refine VP.of (fn:=Tryz.f80) tb_ok (wk_ok rfl) (by kernel_rfl) rfl rfl rfl ?_
 refine VSt.go tb_ok false [] 200 rfl AllP.n ?_
 refine VSt.pc rfl rfl rfl rfl rfl rfl rfl rfl ((isNaN_ok a)) ?_
 refine VSt.go tb_ok false [] 200 rfl AllP.n ?_
 refine VSt.pc rfl rfl rfl rfl rfl rfl rfl rfl ((isNaN_ok b)) ?_
 refine VSt.go tb_ok false [] 200 rfl AllP.n ?_
 refine VSt.cond rfl (fun h=>absurd h (by decide)) (fun _=>?_)
 refine VSt.go tb_ok false [] 200 rfl AllP.n ?_
 refine VSt.cond rfl (fun h=>absurd h (by decide)) (fun _=>?_)
 refine VSt.go tb_ok false [] 200 rfl AllP.n ?_
 refine VSt.cond rfl (fun h=>?_) (fun h=>?_)
 ·refine VSt.go tb_ok false [] 200 rfl AllP.n ?_
  refine EndsP.mk rfl rfl rfl ?_
  show iv _=iv _
  unfold cmpI;rw [if_pos (of_decide_eq_true h)]
 ·refine VSt.go tb_ok false [] 200 rfl AllP.n ?_
  have h:=of_decide_eq_false h
  refine VSt.cond rfl (fun h2=>?_) (fun h2=>?_)
  ·refine VSt.go tb_ok false [] 200 rfl AllP.n ?_
   refine EndsP.mk rfl rfl rfl ?_
   show iv _=iv _
   unfold cmpI;rw [if_neg h,if_pos (of_decide_eq_true h2)]
  ·refine VSt.go tb_ok false [] 200 rfl AllP.n ?_
   refine EndsP.mk rfl rfl rfl ?_
   show iv _=iv _
   unfold cmpI;rw [if_neg h,if_neg (of_decide_eq_false h2)]
theorem find1_ok (o:Opn) (s:Int):VP (sE r) 125 [.agg ((eOpn o).map .p),iv s] (iv (cmpI o.source s)):=by
 refine VP.of (fn:=Tryz.f125) tb_ok (wk_ok rfl) (by kernel_rfl) rfl rfl rfl ?_
 refine VSt.go tb_ok false [] 200 rfl AllP.n ?_
 refine VSt.pc rfl rfl rfl rfl rfl rfl rfl rfl ((compare_ok o.source s)) ?_
 refine VSt.go tb_ok false [] 200 rfl AllP.n ?_
 exact EndsP.mk rfl rfl rfl rfl
theorem cmp_lt {a b:Int}:decide (cmpI a b<0)=decide (a<b):=by
 unfold cmpI
 by_cases h:a<b
 ·rw [if_pos h,decide_eq_true h];rfl
 ·rw [if_neg h,decide_eq_false h]
  split <;> rfl
theorem cmp_eq {a b:Int}:(cmpI a b==0)=(a==b):=by
 unfold cmpI
 by_cases h:a<b
 ·rw [if_pos h,beq_false_of_ne (show a≠b by omega)];rfl
 ·rw [if_neg h]
  by_cases h2:b<a
  ·rw [if_pos h2,beq_false_of_ne (show a≠b by omega)];rfl
  ·have:a=b:=by omega
   subst this
   rw [if_neg h2,beq_self_eq_true,beq_self_eq_true]
theorem wrap_u64 {n:Nat} (h:n<9223372036854775808):IntKind.u64.wrap (Int.ofNat n)=Int.ofNat n:=by
 simp only [IntKind.wrap,IntKind.bits,IntKind.signed,Bool.false_and,Int.ofNat_eq_natCast]
 rw [if_neg (by decide)]
 omega
theorem wrap_i64 {n:Nat} (h:n<9223372036854775808):IntKind.i64.wrap (Int.ofNat n)=Int.ofNat n:=wrap64 (by simp only [Int.ofNat_eq_natCast];omega) (by simp only [Int.ofNat_eq_natCast];omega)
theorem to_u64 {i j:Nat} (h:i+j<9223372036854775808):(ob ((sE r).ti.get 3) fun _=>ob ((sE r).ti.get 125) fun d=>convD d.desc (.int .i64 (Int.ofNat i+Int.ofNat j)))=some (.int .u64 (Int.ofNat (i+j))):=by
 show some (Value.int .u64 (IntKind.u64.wrap (Int.ofNat (i+j))))=_
 rw [wrap_u64 h]
theorem to_i64 {n:Nat} (h:n<9223372036854775808):(ob ((sE r).ti.get 125) fun _=>ob ((sE r).ti.get 3) fun d=>convD d.desc (.int .u64 (Int.ofNat n)))=some (.int .i64 (Int.ofNat n)):=by
 show some (Value.int .i64 (IntKind.i64.wrap (Int.ofNat n)))=_
 rw [wrap_i64 h]
theorem half_u64 {E:Env} {t:TypeId} {n:Nat}:binL E .shr t (.int .u64 (Int.ofNat n)) (.int .u64 1)=some (.int .u64 (Int.ofNat (n / 2))):=by
 show some (Value.int .u64 ((Int.ofNat n).fdiv 2))=_
 rw [Int.ofNat_eq_natCast,Int.fdiv_eq_ediv_of_nonneg _ (by decide)]
 rfl
def posN (l:List Opn) (s:Int):Nat:=(l.filter fun o=>decide (o.source<s)).length
def hasS (l:List Opn) (s:Int):Bool:=l.any fun o=>o.source==s
theorem posN_eq {l:List Opn} {s:Int} {i:Nat} (hi:i≤l.length) (h1:∀ q,q<i→(nth l q).source<s) (h2:∀ q,i≤q→q<l.length→s≤(nth l q).source):posN l s=i:=by
 unfold posN
 have e:l=l.take i++l.drop i:=(List.take_append_drop i l).symm
 conv=>lhs;rw [e]
 rw [List.filter_append,List.filter_eq_self.2,List.filter_eq_nil_iff.2,List.append_nil,List.length_take]
 ·omega
 ·intro o ho
  obtain ⟨q,hq,e⟩:=List.mem_iff_getElem.1 ho
  rw [List.length_drop] at hq
  rw [List.getElem_drop] at e
  have:=h2 (i+q) (by omega) (by omega)
  unfold nth at this
  rw [getD_get (by omega),e] at this
  rw [decide_eq_false (by omega)];decide
 ·intro o ho
  obtain ⟨q,hq,e⟩:=List.mem_iff_getElem.1 ho
  rw [List.length_take] at hq
  rw [List.getElem_take] at e
  have:=h1 q (by omega)
  unfold nth at this
  rw [getD_get (by omega),e] at this
  exact decide_eq_true this
theorem posN_le (l:List Opn) (s:Int):posN l s≤l.length:=List.length_filter_le _ _
set_option maxHeartbeats 4000000 in
theorem bsearch_ok {b:Bool} {l:List Opn} {s:Int} (hR:Reg l):VP (sE r) 124 [.p (eOpns b l),iv s,.fn 125 [] []] (.tup [nv (posN l s),bv (hasS l s)]):=by
 have hn:=hR.len
 have hmono:∀ p q,p≤q→q<l.length→(nth l p).source≤(nth l q).source:=fun p q hpq hq=>by
  by_cases e:p=q
  ·subst e;exact Int.le_refl _
  ·have h1:=List.pairwise_iff_getElem.1 hR.vc.rise p q (by omega) hq (by omega)
   unfold nth
   rw [getD_get hq,getD_get (show p<l.length by omega)]
   omega
 refine VP.of (fn:=Tryz.f124) tb_ok (wk_ok rfl) (by kernel_rfl) rfl rfl rfl ?_
 refine VSt.go tb_ok false [] 200 rfl AllP.n ?_
 refine VSt.loop (α :=Nat×Nat) (fun x F L=>x.1≤x.2∧x.2≤l.length∧(∀ q,q<x.1→(nth l q).source<s)∧(∀ q,x.2≤q→q<l.length→s≤(nth l q).source)∧F=[(0,.p (eOpns b l)),(1,iv s),(2,.fn 125 [] []),(8,nv l.length),(9,nv x.1),(10,nv x.2)]∧L=[]) (fun x=>x.2 - x.1) (0,l.length) (by (refine Vw.drop (by repeat (first | exact wf_nil | refine wf_back rfl rfl rfl ?_ | refine wf_cons rfl ‹_› (ren_only _ ‹_›) ?_)))) ⟨Nat.zero_le _,Nat.le_refl _,fun q h=>absurd h (Nat.not_lt_zero q),fun q h1 h2=>absurd h2 (by omega),rfl,rfl⟩ ?_
 rintro ⟨i,j⟩ F L ⟨h1,h2,h3,h4,rfl,rfl⟩
 refine VSt.go tb_ok false [] 200 rfl AllP.n ?_
 refine VSt.cond rfl (fun g=>?_) (fun g=>?_)
 ·have g:i<j:=nlt g
  have h2:j≤l.length:=h2
  have hm:(i+j) / 2<l.length:=by omega
  refine VSt.go tb_ok false [21] 200 rfl (AllP.c (by unfold inR;(try simp only [Int.ofNat_eq_natCast]);omega) AllP.n) ?_
  refine VSt.opA rfl rfl (PureA.conv (ka:=.i64) (a:=Int.ofNat i+Int.ofNat j) (kc:=.u64) (c:=Int.ofNat (i+j)) rfl (to_u64 (by omega))) ?_
  refine VSt.opA rfl rfl (PureA.bin (ka:=.u64) (kb:=.u64) (a:=Int.ofNat (i+j)) (b:=1) (kc:=.u64) (c:=Int.ofNat ((i+j) / 2)) rfl rfl half_u64) ?_
  refine VSt.opA rfl rfl (PureA.conv (ka:=.u64) (a:=Int.ofNat ((i+j) / 2)) (kc:=.i64) (c:=Int.ofNat ((i+j) / 2)) rfl (to_i64 (by omega))) ?_
  refine VSt.go tb_ok false [] 200 rfl (AllP.c ‹_› (AllP.c rfl AllP.n)) ?_
  refine VSt.pc rfl rfl rfl rfl rfl rfl rfl rfl ((find1_ok (nth l ((i+j) / 2)) s)) ?_
  refine VSt.go tb_ok false [] 200 rfl AllP.n ?_
  refine VSt.cond rfl (fun g1=>?_) (fun g1=>?_)
  ·have g1:(nth l ((i+j) / 2)).source<s:=of_decide_eq_true (cmp_lt.symm.trans g1)
   refine VSt.go tb_ok false [] 200 rfl (AllP.c (by unfold inR;(try simp only [Int.ofNat_eq_natCast]);omega) AllP.n) ?_
   exact ⟨((i+j) / 2+1,j),_,_,(by (refine Vw.drop (by repeat (first | exact wf_nil | refine wf_back rfl rfl rfl ?_ | refine wf_cons rfl ‹_› (ren_only _ ‹_›) ?_)))),⟨by show (i+j) / 2+1≤j;omega,h2,fun q hq=>Int.lt_of_le_of_lt (hmono q ((i+j) / 2) (by have:q<(i+j) / 2+1:=hq;omega) hm) g1,h4,rfl,rfl⟩,by show j - ((i+j) / 2+1)<j - i;omega⟩
  ·have g1:¬ (nth l ((i+j) / 2)).source<s:=of_decide_eq_false (cmp_lt.symm.trans g1)
   refine VSt.go tb_ok false [] 200 rfl AllP.n ?_
   exact ⟨(i,(i+j) / 2),_,_,(by (refine Vw.drop (by repeat (first | exact wf_nil | refine wf_back rfl rfl rfl ?_ | refine wf_cons rfl ‹_› (ren_only _ ‹_›) ?_)))),⟨by show i≤(i+j) / 2;omega,by show (i+j) / 2≤l.length;omega,h3,fun q hq hq2=>Int.le_trans (by omega) (hmono ((i+j) / 2) q hq hq2),rfl,rfl⟩,by show (i+j) / 2 - i<j - i;omega⟩
 ·have g:i=j:=by
   have g:j≤i:=nge g
   have h1:i≤j:=h1
   omega
  subst g
  have hp:posN l s=i:=posN_eq h2 h3 h4
  refine VSt.go tb_ok false [] 200 rfl AllP.n ?_
  refine VSt.splitO 39 rfl (fun g2=>?_) (fun g2=>?_)
  ·have g2:i<l.length:=nlt g2
   refine VSt.go tb_ok false [] 200 rfl (AllP.c ‹_› (AllP.c rfl AllP.n)) ?_
   refine VSt.pc rfl rfl rfl rfl rfl rfl rfl rfl ((find1_ok (nth l i) s)) ?_
   refine VSt.go tb_ok false [] 200 rfl AllP.n ?_
   refine EndsP.mk rfl rfl rfl ?_
   show AV.tup [nv i,bv (cmpI (nth l i).source s==0)]=_
   rw [cmp_eq,hp]
   congr 4
   rw [Bool.eq_iff_iff]
   unfold hasS
   rw [List.any_eq_true]
   refine ⟨fun h=>⟨nth l i,getD_mem g2,h⟩,fun ⟨o,ho,h⟩=>?_⟩
   obtain ⟨q,hq,e⟩:=mem_getD (d:=default) ho
   have e:nth l q=o:=e
   rw [←e,beq_iff_eq] at h
   rcases Nat.lt_trichotomy q i with hlt | rfl | hgt
   ·have:=h3 q hlt;omega
   ·exact beq_iff_eq.2 h
   ·have k1:=h4 i (Nat.le_refl _) g2
    have k2:=hmono i q (Nat.le_of_lt hgt) hq
    exact beq_iff_eq.2 (by omega)
  ·have g2:i=l.length:=by have:=nge g2;have:i≤l.length:=h2;omega
   refine VSt.go tb_ok false [] 200 rfl AllP.n ?_
   refine EndsP.mk rfl rfl rfl ?_
   show AV.tup [nv i,bv false]=_
   rw [hp]
   congr 4
   symm
   unfold hasS
   rw [List.any_eq_false]
   intro o ho
   obtain ⟨q,hq,e⟩:=mem_getD (d:=default) ho
   have e:nth l q=o:=e
   have:=h3 q (by show q<i;omega)
   rw [e] at this
   rw [beq_false_of_ne (by omega)];decide
theorem find_ok {b:Bool} {l:List Opn} {s:Int} (hR:Reg l):VP (sE r) 92 [.agg [.p (eOpns b l)],iv s] (.tup [nv (posN l s),bv (hasS l s)]):=by
 refine VP.of (fn:=Tryz.f92) tb_ok (wk_ok rfl) (by kernel_rfl) rfl rfl rfl ?_
 refine VSt.go tb_ok false [] 200 rfl AllP.n ?_
 refine VSt.pc rfl rfl rfl rfl rfl rfl rfl rfl ((bsearch_ok (b:=b) (s:=s) hR)) ?_
 refine VSt.go tb_ok false [] 200 rfl AllP.n ?_
 exact EndsP.mk rfl rfl rfl rfl
theorem AImp.slE' {i sz off off' m m' c c':Nat} (h0:off=off') (h:m=m') (h2:c=c'):AImp (.sl i sz off m c 0) (.sl i sz off' m' c' 0):=by subst h0 h h2;exact AImp.refl _
def skipF (f:Nat→List PV) (i:Nat):Nat→List PV:=fun k=>if k<i then f k else f (k+1)
set_option maxHeartbeats 4000000 in
theorem Delete_ok {n i:Nat} {f:Nat→List PV} (hi:i<n) (hn:n≤1000000):VC (sE r) [0] 114 [.sl 0 9 0 n n 0,nv i,nv (i+1)] [(0,.arr n 9 f 45)]
  (fun a L=>∃ g,a = .sl 0 9 0 (n - 1) n 0∧L=[(0,.arr n 9 g 45)]∧∀ k,k<n - 1→g k=skipF f i k):=by
 refine VC.of (fn:=Tryz.f114) tb_ok (wk_ok rfl) (by kernel_rfl) rfl rfl ?_
 refine VSt.go tb_ok false [13] 200 rfl AllP.n ?_
 refine VSt.opA rfl rfl (PureA.slice3 (l:=i) (h:=i+1) (q:=n) tb_ok rfl rfl rfl rfl rfl rfl (by omega) (by omega) (by omega)) ?_
 refine VSt.go tb_ok false [] 200 rfl AllP.n ?_
 refine VSt.cond rfl (fun h=>?_) (fun _=>?_)
 ·have h:(Int.ofNat i==Int.ofNat (i+1))=true:=h
  rw [beq_iff_eq] at h
  have:=Int.ofNat_inj.1 h
  omega
 refine VSt.go tb_ok false [25] 200 rfl (AllP.c (by omega) (AllP.c (by omega) (AllP.c (by omega) (AllP.c rfl AllP.n)))) ?_
 refine VSt.opD rfl rfl (PureA.sliceLo (l:=i+1) tb_ok rfl rfl rfl rfl (by omega) (Nat.le_refl _)) ?_
 refine VSt.appSD tb_ok rfl rfl rfl rfl rfl rfl rfl rfl rfl rfl (by omega) (by omega) (by omega) (by omega) ?_
 refine VSt.go tb_ok false [] 200 rfl (AllP.c (by omega) (AllP.c (by omega) (AllP.c (by omega) (AllP.c rfl (AllP.c (by omega) (AllP.c rfl (AllP.c rfl AllP.n))))))) ?_
 refine ⟨rfl,_,[(0,0)],.sl 0 9 0 (n - 1) n 0,[(0,.arr n 9 _ 45)],rfl,⟨rfl,rfl,wf_imp rfl rfl (AImp.slE' (by omega) (by omega) (by omega)) wf_nil,_,rfl,LImp.refl _⟩,_,rfl,rfl,fun k hk=>?_⟩
 show (bif Nat.ble (0+0+(i - 0+(n - (i+1)))) k&&_ then _ else mvF f (0+0+(i - 0)) (0+(i+1)) (n - (i+1)) k)=_
 rw [show Nat.ble (0+0+(i - 0+(n - (i+1)))) k=false by
  rw [←Bool.not_eq_true];intro h
  have:=Nat.le_of_ble_eq_true h
  omega]
 show (bif Nat.ble (0+0+(i - 0)) k&&Nat.blt k (0+0+(i - 0)+(n - (i+1))) then f (0+(i+1)+(k - (0+0+(i - 0)))) else f k)=_
 unfold skipF
 by_cases h:k<i
 ·rw [if_pos h,show Nat.ble (0+0+(i - 0)) k=false by
   rw [←Bool.not_eq_true];intro h2
   have:=Nat.le_of_ble_eq_true h2
   omega];rfl
 ·rw [if_neg h,show Nat.ble (0+0+(i - 0)) k=true from ble_t (by omega),blt_t (show k<0+0+(i - 0)+(n - (i+1)) by omega)]
  show f (0+(i+1)+(k - (0+0+(i - 0))))=_
  congr 1;omega
end Go.Proofs.YtbieflpgjmgaiaaGreat
/- Walks: openings without one. -/
set_option maxRecDepth 100000
namespace Go.Proofs.YtbieflpgjmgaiaaGreat
open Kuhn
variable {r:Rm}
def lessP (l:List Opn) (s:Int):List Opn:=l.filter fun o=>!(o.source==s)
theorem Reg.mono {l:List Opn} (hR:Reg l) {p q:Nat} (h:p<q) (hq:q<l.length):(nth l p).source<(nth l q).source:=by
 have h1:=List.pairwise_iff_getElem.1 hR.vc.rise p q (by omega) hq h
 unfold nth
 rw [getD_get hq,getD_get (show p<l.length by omega)]
 exact h1
theorem has_at {l:List Opn} {s:Int} (hR:Reg l) (h:hasS l s=true):posN l s<l.length∧(nth l (posN l s)).source=s:=by
 unfold hasS at h
 obtain ⟨o,ho,e⟩:=List.any_eq_true.1 h
 obtain ⟨i,hi,rfl⟩:=mem_getD (d:=default) ho
 have e:(nth l i).source=s:=beq_iff_eq.1 e
 have hp:posN l s=i:=posN_eq (Nat.le_of_lt hi) (fun q hq=>by rw [←e];exact hR.mono hq hi) (fun q h1 h2=>by
  by_cases h3:q=i
  ·subst h3;omega
  ·have:=hR.mono (show i<q by omega) h2;omega)
 rw [hp];exact ⟨hi,e⟩
theorem lessP_eq {l:List Opn} {s:Int} (hR:Reg l) (h:hasS l s=true):lessP l s=l.take (posN l s)++l.drop (posN l s+1):=by
 obtain ⟨hi,e⟩:=has_at hR h
 unfold lessP
 generalize posN l s=i at *
 have e2:l=l.take i++nth l i::l.drop (i+1):=by
  conv=>lhs;rw [←List.take_append_drop i l]
  rw [List.drop_eq_getElem_cons hi]
  unfold nth
  rw [getD_get hi]
 conv=>lhs;rw [e2]
 rw [List.filter_append,List.filter_cons_of_neg (by rw [e,beq_self_eq_true];decide),List.filter_eq_self.2,List.filter_eq_self.2]
 ·intro o ho
  obtain ⟨q,hq,e3⟩:=List.mem_iff_getElem.1 ho
  rw [List.length_drop] at hq
  rw [List.getElem_drop] at e3
  have:=hR.mono (show i<i+1+q by omega) (by omega)
  rw [e] at this
  unfold nth at this
  rw [getD_get (show i+1+q<l.length by omega),e3] at this
  rw [beq_false_of_ne (by omega)];rfl
 ·intro o ho
  obtain ⟨q,hq,e3⟩:=List.mem_iff_getElem.1 ho
  rw [List.length_take] at hq
  rw [List.getElem_take] at e3
  have:=hR.mono (show q<i by omega) hi
  rw [e] at this
  unfold nth at this
  rw [getD_get (show q<l.length by omega),e3] at this
  rw [beq_false_of_ne (by omega)];rfl
theorem lessP_at {l:List Opn} {s:Int} (hR:Reg l) (h:hasS l s=true):(lessP l s).length=l.length - 1∧∀ k,k<l.length - 1→eOpn (nth (lessP l s) k)=skipF (fO l) (posN l s) k:=by
 obtain ⟨hi,_⟩:=has_at hR h
 rw [lessP_eq hR h]
 generalize posN l s=i at *
 refine ⟨by rw [List.length_append,List.length_take,List.length_drop];omega,fun k hk=>?_⟩
 unfold skipF fO nth
 by_cases hki:k<i
 ·rw [if_pos hki]
  simp only [List.getD_eq_getElem?_getD]
  rw [List.getElem?_append_left (by rw [List.length_take];omega),List.getElem?_take,if_pos hki]
 ·rw [if_neg hki]
  simp only [List.getD_eq_getElem?_getD]
  rw [List.getElem?_append_right (by rw [List.length_take];omega),List.length_take,List.getElem?_drop]
  congr 3;omega
def woP (l:List Opn) (s:Int):PV:=bif hasS l s then eOpns false (lessP l s) else eOpns true []
set_option maxHeartbeats 4000000 in
theorem without_ok {b:Bool} {l:List Opn} {s:Int} (hR:Reg l):VP (sE r) 78 [.p (eOpns b l),iv s] (.tup [.p (woP l s),bv (hasS l s)]):=by
 have hz:=hR.szs
 have hl:=hR.len
 refine VP.of (fn:=Tryz.f78) tb_ok (wk_ok rfl) (by kernel_rfl) rfl rfl rfl ?_
 refine VSt.go tb_ok false [] 200 rfl AllP.n ?_
 refine VSt.pc rfl rfl rfl rfl rfl rfl rfl rfl ((find_ok (b:=b) (s:=s) hR)) ?_
 refine VSt.go tb_ok false [] 200 rfl AllP.n ?_
 refine VSt.cond rfl (fun h=>?_) (fun h=>?_)
 ·have h:hasS l s=false:=nt h
  refine VSt.go tb_ok false [5] 200 rfl AllP.n ?_
  refine VSt.putO 4 (.p (eOpns true [])) rfl AImp.nil ?_
  refine VSt.go tb_ok false [] 200 rfl AllP.n ?_
  refine EndsP.mk rfl rfl rfl ?_
  unfold woP
  rw [h];rfl
 ·have h:hasS l s=true:=nf h
  obtain ⟨hi,_⟩:=has_at hR h
  obtain ⟨hlen,hat⟩:=lessP_at hR h
  refine VSt.go tb_ok false [] 200 rfl AllP.n ?_
  refine VSt.cc [] rfl rfl rfl rfl rfl rfl rfl rfl rfl rfl rfl (copied_ok (b:=b) hz) ?_
  rintro a L' ⟨rfl,rfl⟩
  refine VSt.go tb_ok false [24] 200 rfl (AllP.c (by unfold inR;(try simp only [Int.ofNat_eq_natCast]);omega) AllP.n) ?_
  refine VSt.viewO (Wk.vw (ps:=[(0,1)]) (F0:=[(20,.sl 0 9 0 l.length l.length 0),(21,nv (posN l s)),(23,nv (posN l s+1)),(8,bv (hasS l s))]) (L0:=[(0,.arr l.length 9 (fO l) 45)]) ⟨rfl,rfl,wf_imp rfl rfl (AImp.accSl (by omega) rfl rfl) (wf_back rfl rfl rfl (wf_back rfl rfl rfl (wf_back rfl rfl rfl wf_nil))),_,rfl,⟨rfl,BImp.accArr (by omega) rfl (fun _ _=>rfl),trivial⟩⟩) ?_
  refine VSt.cc [(0,0)] rfl rfl rfl rfl rfl rfl rfl rfl rfl rfl rfl (Delete_ok (f:=fO l) hi (by omega)) ?_
  rintro a L' ⟨g,rfl,rfl,hg⟩
  refine VSt.viewO (Vw.kp [8,24] [(0,0)] rfl) ?_
  refine VSt.viewO (Vw.freeze 0 rfl rfl ⟨by omega,by omega,rfl⟩) ?_
  refine VSt.putO 24 (.p (eOpns false (lessP l s))) rfl (by show AImp _ (.p (.lst 45 false (lessP l s).length _));rw [hlen];exact AImp.lst fun k hk=>by rw [Nat.zero_add,hg k hk,hat k hk]) ?_
  refine VSt.go tb_ok false [] 200 rfl AllP.n ?_
  refine EndsP.mk rfl rfl rfl ?_
  unfold woP
  rw [h];rfl
end Go.Proofs.YtbieflpgjmgaiaaGreat
/- Walks: the library's sort by a function, of lists that are rising already. -/
set_option maxRecDepth 100000
namespace Go.Proofs.YtbieflpgjmgaiaaGreat
variable {r:Rm}
end Go.Proofs.YtbieflpgjmgaiaaGreat
/- Walks: Compact of ints, every cell an int. -/
set_option maxRecDepth 100000
namespace Go.Proofs.YtbieflpgjmgaiaaGreat
variable {r:Rm}
end Go.Proofs.YtbieflpgjmgaiaaGreat
/- Walks: the library's Concat of ints; the papers that openings name. -/
set_option maxRecDepth 100000
namespace Go.Proofs.YtbieflpgjmgaiaaGreat
variable {r:Rm}
def eRows (bs:Nat→Bool) (ls:Nat→List Int):PV:=.lst 32 false 3 fun k=>[eInts (bs k) (ls k)]
def row3B (a b c:Bool):Nat→Bool
 | 0=>a
 | 1=>b
 | _=>c
def row3L (x y z:List Int):Nat→List Int
 | 0=>x
 | 1=>y
 | _=>z
theorem lit3 {a b c:Bool} {x y z:List Int}:AImp (.p (.lst 32 false 3 fun k=>List.take 1 (List.drop (k*1) [eInts a x,eInts b y,eInts c z]))) (.p (eRows (row3B a b c) (row3L x y z))):=AImp.lst fun k hk=>match k,hk with
 | 0,_=>rfl
 | 1,_=>rfl
 | 2,_=>rfl
end Go.Proofs.YtbieflpgjmgaiaaGreat
/- Walks: Papers, the program's and the reference's. -/
set_option maxRecDepth 100000
namespace Go.Proofs.YtbieflpgjmgaiaaGreat
open Kuhn
variable {r:Rm}
theorem setL_nil:setL []=[]:=rfl
theorem setL_pos {Z:List Int} (h:0<Z.length):(setL Z).isEmpty=false:=by
 have:0<(setL Z).length:=ded_pos _ h
 cases e:setL Z with
 | nil=>rw [e] at this;exact absurd this (by decide)
 | cons=>rfl
structure PutOk (l:List Int) (x:Int) (k:Nat) (st:List Int×Bool):Prop where
 rise:st.1.Pairwise (· < ·)
 mem:∀ y,y∈st.1 ↔ (y∈l.take k∨(st.2=true∧y=x))
 no:st.2=false→∀ y,y∈l.take k→y<x
 yes:st.2=true→∃ y,y∈l.take k∧x≤y
end Go.Proofs.YtbieflpgjmgaiaaGreat
/- Walks: Unlawful, the program's and the reference's. -/
set_option maxRecDepth 100000
namespace Go.Proofs.YtbieflpgjmgaiaaGreat
open Kuhn
variable {r:Rm}
end Go.Proofs.YtbieflpgjmgaiaaGreat
/- Walks: Content, the program's and the reference's. -/
set_option maxRecDepth 100000
namespace Go.Proofs.YtbieflpgjmgaiaaGreat
open Kuhn
variable {r:Rm}
structure DelInv (S:List Int) (p:Int→Bool) (k m:Nat) (g:Nat→Int):Prop where
 kn:k≤S.length
 mk2:m<k
 len:((S.take k).filter fun x=>!p x).length=m
 done:∀ i,i<m→g i=((S.take k).filter fun x=>!p x).getD i 0
 rest:∀ i,m≤i→i<S.length→g i=S.getD i 0
end Go.Proofs.YtbieflpgjmgaiaaGreat
/- Openings copied, openings without one: what is true of them. -/
set_option maxRecDepth 100000
namespace Go.Proofs.YtbieflpgjmgaiaaGreat
open Kuhn
variable {r:Rm}
theorem Reg.hits {l:List Opn} (h:Reg l):l.Pairwise fun a b=>hit a b=false:=by
 rw [List.pairwise_iff_getElem]
 intro i j hi hj hij
 have:=h.apart j hj i hij
 unfold nth at this
 rwa [getD_get hi,getD_get hj] at this
theorem Reg.of {l:List Opn} (h1:l.length≤60) (h2:∀ o,o∈l→OkO o) (h3:l.Pairwise fun a b=>a.source<b.source) (h4:l.Pairwise fun a b=>hit a b=false):Reg l:=by
 rw [List.pairwise_iff_getElem] at h3 h4
 refine ⟨h1,fun i hi=>h2 _ (getD_mem hi),fun i h0 hi=>?_,fun i hi k hk=>?_⟩
 ·unfold nth
  rw [getD_get hi,getD_get (show i - 1<l.length by omega)]
  exact h3 (i - 1) i (by omega) hi (by omega)
 ·unfold nth
  rw [getD_get hi,getD_get (show k<l.length by omega)]
  exact h4 k i (by omega) hi hk
theorem Reg.lessP {l:List Opn} (h:Reg l) (s:Int):Reg (lessP l s) :=
 Reg.of (Nat.le_trans (List.length_filter_le _ _) h.len) (fun o ho=>h.vc.ok o (List.mem_filter.1 ho).1) (h.vc.rise.filter _) (h.hits.filter _)
theorem Reg.cp {l:List Opn} (h:Reg l):Reg (l.map cpO) :=
 Reg.of (by rw [List.length_map];exact h.len) (fun o ho=>by
  obtain ⟨x,hx,rfl⟩:=List.mem_map.1 ho
  exact cpO_ok (h.vc.ok x hx)) (by rw [List.pairwise_map];exact h.vc.rise) (by rw [List.pairwise_map];exact h.hits)
theorem lessI_eq (l:List Opn) (s:Int):lessI l s=(lessP l s).map cpO:=rfl
theorem Reg.lessI {l:List Opn} (h:Reg l) (s:Int):Reg (lessI l s):=(h.lessP s).cp
theorem fm_cp (l:List Opn) (p:Opn→Bool) (h:∀ o,p (cpO o)=p o):(l.map cpO).filter p=(l.filter p).map cpO:=by
 rw [List.filter_map,show p ∘ cpO=p from funext h]
theorem cnt_cp (l:List Opn) (d:Int):cnt (l.map cpO) d nb=(cnt l d nb).map cpO:=by
 rw [cnt_nb,cnt_nb]
 exact fm_cp l _ fun _=>rfl
end Go.Proofs.YtbieflpgjmgaiaaGreat
/- Walks: Moved, the program's and the reference's. -/
set_option maxRecDepth 100000
namespace Go.Proofs.YtbieflpgjmgaiaaGreat
open Kuhn
variable {r:Rm}
end Go.Proofs.YtbieflpgjmgaiaaGreat
/- The law ChestLists. -/
set_option maxRecDepth 100000
namespace Go.Proofs.YtbieflpgjmgaiaaGreat
open Kuhn
variable {r:Rm}
set_option maxHeartbeats 4000000 in
theorem same_ok {b b2:Bool} {l:List Int} (hn:l.length≤1000):VP (sE r) 25 [.p (eInts b l),.p (eInts b2 l)] (bv true):=by
 refine VP.of (fn:=Tryz.f25) tb_ok (wk_ok rfl) (by kernel_rfl) rfl rfl rfl ?_
 refine VSt.go tb_ok false [] 200 rfl AllP.n ?_
 refine VSt.loopT (ti:=6) l.length [0,1] (fun _=>[(5,bv true)]) (fun _=>[]) (fun _=>True) rfl rfl (u0_cons rfl (AImp.of_eq (by rw [show (Int.ofNat l.length==Int.ofNat l.length)=true from beq_self_eq_true _])) u0_nil) trivial trivial (fun k hk _=>?_)
 refine VSt.go tb_ok false [] 200 rfl AllP.n ?_
 refine VSt.splitO 16 rfl (fun h=>?_) (fun h=>?_)
 ·have h:=nlt h
  refine VSt.go tb_ok false [] 200 rfl AllP.n ?_
  refine VSt.cond rfl (fun _=>?_) (fun g=>absurd g (by decide))
  refine VSt.go tb_ok false [5] 200 rfl (AllP.c ‹_› (AllP.c rfl (AllP.c ‹_› (AllP.c rfl AllP.n)))) ?_
  refine VSt.putD 29 (bv true) rfl (AImp.of_eq (by rw [beq_self_eq_true])) ?_
  refine VSt.go tb_ok false [] 200 rfl (AllP.c (by unfold inR;(try simp only [Int.ofNat_eq_natCast]);omega) AllP.n) ?_
  refine ⟨h,?_,trivial⟩
  (refine Vw.drop (by repeat (first | exact wf_nil | refine wf_back rfl rfl rfl ?_ | refine wf_cons rfl ‹_› (ren_only _ ‹_›) ?_)))
 ·have h:k=l.length:=by have:=nge h;omega
  refine VSt.go tb_ok false [] 200 rfl AllP.n ?_
  exact EndsP.mk rfl rfl rfl rfl
end Go.Proofs.YtbieflpgjmgaiaaGreat
/- Walks: Dates, Without, Has, counts. -/
set_option maxRecDepth 100000
namespace Go.Proofs.YtbieflpgjmgaiaaGreat
open Kuhn
variable {r:Rm}
theorem lawCounts_ok (o:Opn) (d:Int):VP (sE r) 28 [.agg ((eOpn o).map .p),iv d] (bv (counts o d)):=by
 refine VP.of (fn:=Tryz.f28) tb_ok (wk_ok rfl) (by kernel_rfl) rfl rfl rfl ?_
 have two:∀ x:Bool,decide (o.known≤d)=x→counts o d=(x&&(o.until_==0||decide (d<o.until_))):=fun x h=>by unfold counts;rw [h]
 refine VSt.go tb_ok false [] 200 rfl AllP.n ?_
 refine VSt.splitO 9 rfl (fun h1=>?_) (fun h1=>?_)
 ·have e:=two true h1
  refine VSt.go tb_ok false [] 200 rfl AllP.n ?_
  refine VSt.splitO 13 rfl (fun h2=>?_) (fun h2=>?_)
  ·refine VSt.go tb_ok false [] 200 rfl AllP.n ?_
   refine EndsP.mk rfl rfl rfl ?_
   show bv _=bv _
   rw [e,h2];rfl
  ·refine VSt.go tb_ok false [] 200 rfl AllP.n ?_
   refine EndsP.mk rfl rfl rfl ?_
   show bv _=bv _
   rw [e,h2];rfl
 ·have e:=two false h1
  refine VSt.go tb_ok false [] 200 rfl AllP.n ?_
  refine EndsP.mk rfl rfl rfl ?_
  show bv _=bv _
  rw [e];rfl
theorem Without_ok {b:Bool} {l:List Opn} {s:Int} (hR:Reg l):VP (sE r) 30 [.p (eOpns b l),iv s] (.tup [.p (woP l s),iv (bif hasS l s then 0 else 3)]):=by
 have hz:=hR.szs
 have hw:SzsW l:=⟨by have:=hz.len;omega,fun k hk=>⟨by have:=(hz.each k hk).inn;omega,by have:=(hz.each k hk).out;omega⟩⟩
 have hc:=check_ok (r:=r) (b:=b) hw
 have e:ckReg l=0:=if_pos hR
 rw [e] at hc
 have hwo:=without_ok (r:=r) (b:=b) (s:=s) hR
 refine VP.of (fn:=Tryz.f30) tb_ok (wk_ok rfl) (by kernel_rfl) rfl rfl rfl ?_
 refine VSt.go tb_ok false [] 200 rfl AllP.n ?_
 refine VSt.pc rfl rfl rfl rfl rfl rfl rfl rfl (hc) ?_
 refine VSt.go tb_ok false [] 200 rfl AllP.n ?_
 refine VSt.cond rfl (fun h=>absurd h (by decide)) (fun _=>?_)
 refine VSt.go tb_ok false [] 200 rfl AllP.n ?_
 cases hs:hasS l s with
 | false =>
  have ew:woP l s=eOpns true []:=by unfold woP;rw [hs];rfl
  rw [hs,ew] at hwo
  rw [ew]
  refine VSt.pc rfl rfl rfl rfl rfl rfl rfl rfl (hwo) ?_
  refine VSt.go tb_ok false [] 200 rfl AllP.n ?_
  refine VSt.cond rfl (fun _=>?_) (fun h=>absurd h (by decide))
  refine VSt.go tb_ok false [5] 200 rfl AllP.n ?_
  refine VSt.putO 4 (.p (eOpns true [])) rfl AImp.nil ?_
  refine VSt.go tb_ok false [] 200 rfl AllP.n ?_
  exact EndsP.mk rfl rfl rfl rfl
 | true =>
  rw [hs] at hwo
  refine VSt.pc rfl rfl rfl rfl rfl rfl rfl rfl (hwo) ?_
  refine VSt.go tb_ok false [] 200 rfl AllP.n ?_
  refine VSt.cond rfl (fun h=>absurd h (by decide)) (fun _=>?_)
  refine VSt.go tb_ok false [] 200 rfl AllP.n ?_
  exact EndsP.mk rfl rfl rfl rfl
end Go.Proofs.YtbieflpgjmgaiaaGreat
/- What is known later does not count; what counts when one is gone. -/
set_option maxRecDepth 100000
namespace Go.Proofs.YtbieflpgjmgaiaaGreat
open Kuhn
variable {r:Rm}
theorem Reg.szw {l:List Opn} (h:Reg l):SzsW l:=⟨by have:=h.szs.len;omega,fun k hk=>⟨by have:=(h.szs.each k hk).inn;omega,by have:=(h.szs.each k hk).out;omega⟩⟩
theorem tru_good {b:Bool} {l:List Opn} {d:Int} {o:Opn} (hR:Reg l) (h2:wth d 0 100000=true) (ho:o∈cnt l d nb):VP (sE r) 11 [.p (eOpns b l),iv o.source,iv d] (.tup [iv (truI (cnt l d nb) o),iv 0]):=by
 have h:=True_ok (r:=r) (b:=b) (s:=o.source) (d:=d) hR.szw
 have ea:askE l d=0:=by unfold askE;rw [if_pos hR,if_pos h2]
 have ef:=fnd_of hR ho
 have e1:truV l d o.source=truI (cnt l d nb) o:=by unfold truV;rw [if_pos ea,ef]
 have e2:truE l d o.source=0:=by unfold truE;rw [if_pos ea,ef];rfl
 rw [e1,e2] at h
 exact h
end Go.Proofs.YtbieflpgjmgaiaaGreat
