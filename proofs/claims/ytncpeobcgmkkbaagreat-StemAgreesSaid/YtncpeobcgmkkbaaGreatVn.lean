/- The program's StemAgrees returns true for every stem, one and number, valid or not, without an exception and without changing its arguments: a part of the proof. -/
import Derived.Test.YtncpeobcgmkkbaaGreatVg
import Derived.Test.YtncpeobcgmkkbaaGreatVd
import Derived.WalkKit
import Derived.Test.YtncpeobcgmkkbaaGreatVe
set_option linter.all false
/- The table of this program's types. -/
set_option maxRecDepth 100000
namespace Go.Proofs.YtncpeobcgmkkbaaGreat
noncomputable def tb:Tab:=[
 (3,⟨1,false,.int .i64,[.int .i64 (0)]⟩),
 (44,⟨2,true,.struct false [(0,1,false),(1,1,false)],[.int .i64 (0),.lst 0 true 0 fun _=>[]]⟩),
 (28,⟨1,false,.slice 3 1,[.lst 0 true 0 fun _=>[]]⟩),
 (27,⟨6,true,.struct false [(0,1,false),(1,4,true),(5,1,false)],[.lst 0 true 0 fun _=>[],.int .i64 (0),.int .i64 (0),.int .i64 (0),.int .i64 (0),.lst 0 true 0 fun _=>[]]⟩),
 (22,⟨1,false,.slice 44 2,[.lst 0 true 0 fun _=>[]]⟩),
 (95,⟨2,true,.struct true [(0,1,false),(1,1,false)],[.int .i64 (0),.int .i64 (0)]⟩),
 (57,⟨2,true,.struct true [(0,1,false),(1,1,false)],[.int .i64 (0),.int .i64 (0)]⟩),
 (66,⟨1,false,.slice 95 2,[.lst 0 true 0 fun _=>[]]⟩),
 (74,⟨1,false,.slice 28 1,[.lst 0 true 0 fun _=>[]]⟩),
 (29,⟨1,false,.int .i64,[.int .i64 (0)]⟩),
 (25,⟨1,false,.slice 57 2,[.lst 0 true 0 fun _=>[]]⟩),
 (78,⟨1,true,.struct false [(0,1,false)],[.lst 0 true 0 fun _=>[]]⟩),
 (24,⟨4,true,.struct true [(0,1,false),(1,1,false),(2,1,false),(3,1,false)],[.int .i64 (0),.int .i64 (0),.int .i64 (0),.int .i64 (0)]⟩),
 (160,⟨1,false,.int .u64,[.int .u64 (0)]⟩),
 (76,⟨9,true,.struct false [(0,6,true),(6,1,false),(7,1,false),(8,1,false)],[.lst 0 true 0 fun _=>[],.int .i64 (0),.int .i64 (0),.int .i64 (0),.int .i64 (0),.lst 0 true 0 fun _=>[],.lst 0 true 0 fun _=>[],.lst 0 true 0 fun _=>[],.int .i64 (0)]⟩),
 (134,⟨1,false,.int .u64,[.int .u64 (0)]⟩),
 (175,⟨1,false,.int .u64,[.int .u64 (0)]⟩),
 (91,⟨4,true,.struct true [(0,1,false),(1,1,false),(2,1,false),(3,1,false)],[.int .i64 (0),.int .i64 (0),.int .i64 (0),.int .i64 (0)]⟩),
 (179,⟨1,false,.ptr,[.nilp]⟩),
 (71,⟨1,false,.ptr,[.nilp]⟩),
 (108,⟨1,false,.func,[.nilf]⟩),
 (118,⟨1,false,.func,[.nilf]⟩),
 (46,⟨9,true,.struct false [(0,2,true),(2,4,true),(6,1,false),(7,1,false),(8,1,false)],[.int .i64 (0),.lst 0 true 0 fun _=>[],.int .i64 (0),.int .i64 (0),.int .i64 (0),.int .i64 (0),.int .i64 (0),.int .i64 (0),.int .i64 (0)]⟩),
 (116,⟨3,true,.struct false [(0,1,false),(1,1,false),(2,1,false)],[.lst 0 true 0 fun _=>[],.lst 0 true 0 fun _=>[],.lst 0 true 0 fun _=>[]]⟩),
 (35,⟨1,false,.slice 91 4,[.lst 0 true 0 fun _=>[]]⟩),
 (158,⟨1,false,.int .u32,[.int .u32 (0)]⟩),
 (4,⟨1,false,.bool,[.bool false]⟩),
 (52,⟨2,true,.arr 2 1 false,[.int .i64 (0),.int .i64 (0)]⟩),
 (144,⟨1,false,.mapI,[.nilm]⟩),
 (151,⟨1,false,.int .i64,[.int .i64 (0)]⟩),
 (146,⟨1,false,.func,[.nilf]⟩),
 (5,⟨1,false,.int .u8,[.int .u8 (0)]⟩),
 (127,⟨1,false,.func,[.nilf]⟩),
 (9,⟨1,false,.str,[.str ⟨#[]⟩]⟩),
 (110,⟨1,false,.func,[.nilf]⟩),
 (114,⟨1,false,.ptr,[.nilp]⟩),
 (129,⟨1,false,.func,[.nilf]⟩)]
theorem tb_ok {r:Tr (List Value×TypeId)}:TabOK (sE r) tb=true:=by kernel_rfl
end Go.Proofs.YtncpeobcgmkkbaaGreat
/- Stems by value; the checks of one copy and of costs. -/
set_option maxRecDepth 100000
namespace Go.Proofs.YtncpeobcgmkkbaaGreat
theorem getD_get {α : Type} {l:List α} {k:Nat} {d : α} (h:k<l.length):l.getD k d=l[k]:=by
 rw [List.getD_eq_getElem?_getD,List.getElem?_eq_getElem h];rfl
theorem bs_ints:∀ (l:List Int) (k:Nat),k<l.length→((l.map (PV.int .i64)).drop (k*1)).take 1=[PV.int .i64 (l.getD k 0)]
 | a::l,0,_=>rfl
 | a::l,k+1,h=>by
  have:=bs_ints l k (by simpa using h)
  rw [Nat.mul_one] at this ⊢
  exact this
structure Copy where
 id:Int
 words:List Int
 wn:Bool
instance:Inhabited Copy:=⟨⟨0,[],true⟩⟩
def eInts (b:Bool) (l:List Int):PV:=.lst 3 b l.length fun k=>[.int .i64 (l.getD k 0)]
def eCopy (c:Copy):List PV:=[.int .i64 c.id,eInts c.wn c.words]
def eCopies (b:Bool) (l:List Copy):PV:=.lst 44 b l.length fun k=>eCopy (l.getD k default)
def wth (n lo hi:Int):Bool:=decide (lo≤n)&&decide (n≤hi)
variable {r:Tr (List Value×TypeId)}
theorem within_ok (n lo hi:Int):VP (sE r) 71 [iv n,iv lo,iv hi] (bv (wth n lo hi)):=by
 refine VP.of (fn:=Tryz.f71) tb_ok rfl (by kernel_rfl) rfl rfl rfl ?_
 refine VSt.run tb_ok false [] 200 rfl trivial ?_
 refine VSt.splitO 10 rfl (fun h=>?_) (fun h=>?_)
 ·refine VSt.run tb_ok false [] 200 rfl trivial ?_
  refine EndsP.mk rfl rfl rfl ?_
  show bv _=bv _
  unfold wth;rw [h];rfl
 ·refine VSt.run tb_ok false [] 200 rfl trivial ?_
  refine EndsP.mk rfl rfl rfl ?_
  show bv _=bv _
  unfold wth;rw [h];rfl
def badW (w:Int):Bool:=!wth w 0 99
theorem bad_ok (w:Int):VP (sE r) 88 [iv w] (bv (badW w)):=by
 refine VP.of (fn:=Tryz.f88) tb_ok rfl (by kernel_rfl) rfl rfl rfl ?_
 refine VSt.run tb_ok false [] 200 rfl trivial ?_
 first | refine VSt.pc rfl rfl rfl rfl rfl rfl rfl rfl ((within_ok w 0 99)) ?_ | refine VSt.pcD rfl rfl rfl rfl rfl rfl rfl rfl ((within_ok w 0 99)) ?_
 refine VSt.run tb_ok false [] 200 rfl trivial ?_
 exact EndsP.mk rfl rfl rfl rfl
def idxI (l:List Int) (p:Int→Bool):Int:=match l.findIdx? p with
 | some k=>k
 | none=> -1
theorem idxI_hit {l:List Int} {k:Nat} {p:Int→Bool} (hk:k<l.length) (h:p (l.getD k 0)=true) (hb:∀ i,i<k→p (l.getD i 0)=false):idxI l p=k:=by
 unfold idxI
 have:l.findIdx? p=some k:=by
  rw [List.findIdx?_eq_some_iff_getElem]
  refine ⟨hk,by rw [getD_get hk] at h;exact h,fun j hj=>?_⟩
  have:=hb j hj
  rw [getD_get (by omega)] at this
  simp [this]
 rw [this]
theorem idxI_miss {l:List Int} {p:Int→Bool} (hb:∀ i,i<l.length→p (l.getD i 0)=false):idxI l p = -1:=by
 unfold idxI
 have:l.findIdx? p=none:=by
  rw [List.findIdx?_eq_none_iff]
  intro x hx
  obtain ⟨k,hk,rfl⟩:=List.mem_iff_getElem.1 hx
  have:=hb k hk
  rwa [getD_get hk] at this
 rw [this]
theorem idxInt_ok {b:Bool} {l:List Int} {f:Nat} {first cap:List AV} {p:Int→Bool} (hn:l.length<9223372036854775808) (hon:(AV.fn f first cap).only (olds [])=true) (hoc:∀ x,AV.onlys (olds []) (first++([iv x]++cap))=true) (hf:∀ x,VP (sE r) f (first++([iv x]++cap)) (bv (p x))) :
  VP (sE r) 119 [.p (eInts b l),.fn f first cap] (iv (idxI l p)):=by
 refine VP.of (fn:=Tryz.f119) tb_ok rfl (by kernel_rfl) rfl rfl rfl ?_
 refine VSt.run tb_ok false [] 200 rfl trivial ?_
 refine VSt.rangeF tb_ok l.length (by omega) (fun _=>[(0,.p (eInts b l)),(1,.fn f first cap)]) (fun _=>[]) (fun k=>∀ i,i<k→p (l.getD i 0)=false) rfl rfl (fun _=>rfl) ?_ (fun i hi=>absurd hi (Nat.not_lt_zero i)) (fun k hk hp=>?_) (fun hp=>?_)
 ·(refine Vw.drop (by repeat (first | exact wf_nil | refine wf_back rfl rfl rfl ?_ | refine wf_cons rfl ‹_› (ren_only _ ‹_›) ?_)))
 ·refine VSt.run tb_ok false [] 200 rfl (⟨hk,rfl⟩) ?_
  refine VSt.pcall (hf (l.getD k 0)) rfl rfl rfl rfl rfl rfl (hoc _) ?_
  refine VSt.run tb_ok false [] 200 rfl trivial ?_
  refine VSt.cond rfl (fun hc=>?_) (fun hc=>?_)
  ·refine VSt.run tb_ok false [] 200 rfl trivial ?_
   refine EndsP.mk rfl rfl rfl ?_
   rw [idxI_hit hk hc hp];rfl
  ·refine VSt.run tb_ok false [] 200 rfl trivial ?_
   refine ⟨by (refine Vw.drop (by repeat (first | exact wf_nil | refine wf_back rfl rfl rfl ?_ | refine wf_cons rfl ‹_› (ren_only _ ‹_›) ?_))),fun i hi=>?_⟩
   by_cases e:i=k
   ·subst e;exact hc
   ·exact hp i (by omega)
 ·refine VSt.run tb_ok false [] 200 rfl trivial ?_
  refine EndsP.mk rfl rfl rfl ?_
  rw [idxI_miss hp];rfl
theorem contInt_ok {b:Bool} {l:List Int} {f:Nat} {first cap:List AV} {p:Int→Bool} (hn:l.length<9223372036854775808) (hon:(AV.fn f first cap).only (olds [])=true) (hoc:∀ x,AV.onlys (olds []) (first++([iv x]++cap))=true) (hf:∀ x,VP (sE r) f (first++([iv x]++cap)) (bv (p x))) :
  VP (sE r) 89 [.p (eInts b l),.fn f first cap] (bv (l.any p)):=by
 refine VP.of (fn:=Tryz.f89) tb_ok rfl (by kernel_rfl) rfl rfl rfl ?_
 refine VSt.run tb_ok false [] 200 rfl trivial ?_
 refine VSt.pcall (idxInt_ok hn hon hoc hf) rfl rfl rfl rfl rfl rfl (by
  show (true&&((AV.fn f first cap).only (olds [])&&true))=true
  rw [hon];rfl) ?_
 refine VSt.run tb_ok false [] 200 rfl trivial ?_
 refine EndsP.mk rfl rfl rfl ?_
 show bv _=bv _
 congr 2
 unfold idxI
 cases h:l.findIdx? p with
 | none =>
  rw [List.findIdx?_eq_none_iff] at h
  symm
  show l.any p=false
  rw [List.any_eq_false]
  exact fun x hx=>by simp [h x hx]
 | some k =>
  have:l.any p=true:=by
   rw [List.findIdx?_eq_some_iff_getElem] at h
   obtain ⟨hk,h,_⟩:=h
   exact List.any_eq_true.2 ⟨_,List.getElem_mem hk,h⟩
  rw [this];exact decide_eq_true (Int.natCast_nonneg k)
def ckCopy (c:Copy):Int:=if (!wth c.id 1 99||(!wth c.words.length 1 16||c.words.any badW))=true then 40 else 0
theorem checkCopy_ok (c:Copy) (hn:c.words.length<9223372036854775808):VP (sE r) 45 [.agg ((eCopy c).map .p)] (iv (ckCopy c)):=by
 refine VP.of (fn:=Tryz.f45) tb_ok rfl (by kernel_rfl) rfl rfl rfl ?_
 refine VSt.run tb_ok false [] 200 rfl trivial ?_
 first | refine VSt.pc rfl rfl rfl rfl rfl rfl rfl rfl ((within_ok c.id 1 99)) ?_ | refine VSt.pcD rfl rfl rfl rfl rfl rfl rfl rfl ((within_ok c.id 1 99)) ?_
 refine VSt.run tb_ok false [] 200 rfl trivial ?_
 refine VSt.splitO 8 rfl (fun h=>?_) (fun h=>?_)
 ·refine VSt.run tb_ok false [] 200 rfl trivial ?_
  refine EndsP.mk rfl rfl rfl ?_
  show iv _=iv _
  unfold ckCopy;rw [h];rfl
 ·refine VSt.run tb_ok false [] 200 rfl trivial ?_
  first | refine VSt.pc rfl rfl rfl rfl rfl rfl rfl rfl ((within_ok (Int.ofNat c.words.length) 1 16)) ?_ | refine VSt.pcD rfl rfl rfl rfl rfl rfl rfl rfl ((within_ok (Int.ofNat c.words.length) 1 16)) ?_
  refine VSt.run tb_ok false [] 200 rfl trivial ?_
  refine VSt.splitO 15 rfl (fun h2=>?_) (fun h2=>?_)
  ·refine VSt.run tb_ok false [] 200 rfl trivial ?_
   refine EndsP.mk rfl rfl rfl ?_
   show iv _=iv _
   change (!wth (c.words.length:Int) 1 16)=true at h2
   unfold ckCopy;rw [h,h2];rfl
  ·refine VSt.run tb_ok false [] 200 rfl trivial ?_
   first | refine VSt.pc rfl rfl rfl rfl rfl rfl rfl rfl ((contInt_ok (p:=badW) hn rfl (fun _=>rfl) bad_ok)) ?_ | refine VSt.pcD rfl rfl rfl rfl rfl rfl rfl rfl ((contInt_ok (p:=badW) hn rfl (fun _=>rfl) bad_ok)) ?_
   refine VSt.run tb_ok false [] 200 rfl trivial ?_
   change (!wth (c.words.length:Int) 1 16)=false at h2
   refine VSt.cond rfl (fun h3=>?_) (fun h3=>?_)
   ·refine VSt.run tb_ok false [] 200 rfl trivial ?_
    refine EndsP.mk rfl rfl rfl ?_
    show iv _=iv _
    unfold ckCopy;rw [h,h2,h3];rfl
   ·refine VSt.run tb_ok false [] 200 rfl trivial ?_
    refine EndsP.mk rfl rfl rfl ?_
    show iv _=iv _
    unfold ckCopy;rw [h,h2,h3];rfl
structure Costs where
 lose:Int
 gain:Int
 like:Int
 turn:Int
def eCosts (c:Costs):List PV:=[.int .i64 c.lose,.int .i64 c.gain,.int .i64 c.like,.int .i64 c.turn]
def ckCosts (c:Costs):Int:=if ((wth c.lose 0 100&&wth c.gain 0 100)&&(wth c.like 0 100&&wth c.turn 0 100))=true then 0 else 41
theorem checkCosts_ok (c:Costs):VP (sE r) 47 [.agg ((eCosts c).map .p)] (iv (ckCosts c)):=by
 refine VP.of (fn:=Tryz.f47) tb_ok rfl (by kernel_rfl) rfl rfl rfl ?_
 refine VSt.run tb_ok false [] 200 rfl trivial ?_
 refine VSt.rangeF tb_ok 4 (by omega) (fun _=>[(13,.p (eInts false [c.lose,c.gain,c.like,c.turn]))]) (fun _=>[]) (fun k=>∀ i,i<k→wth ([c.lose,c.gain,c.like,c.turn].getD i 0) 0 100=true) rfl rfl (fun _=>rfl) ?_ (fun i hi=>absurd hi (Nat.not_lt_zero i)) (fun k hk hp=>?_) (fun hp=>?_)
 ·refine Vw.drop (wf_cons rfl rfl rfl (wf_cons rfl rfl rfl (wf_imp rfl rfl (AImp.lst fun k hk=>bs_ints [c.lose,c.gain,c.like,c.turn] k hk) wf_nil)))
 ·refine VSt.run tb_ok false [] 200 rfl (⟨hk,rfl⟩) ?_
  first | refine VSt.pc rfl rfl rfl rfl rfl rfl rfl rfl ((within_ok ([c.lose,c.gain,c.like,c.turn].getD k 0) 0 100)) ?_ | refine VSt.pcD rfl rfl rfl rfl rfl rfl rfl rfl ((within_ok ([c.lose,c.gain,c.like,c.turn].getD k 0) 0 100)) ?_
  refine VSt.run tb_ok false [] 200 rfl trivial ?_
  refine VSt.cond rfl (fun hc=>?_) (fun hc=>?_)
  ·refine VSt.run tb_ok false [] 200 rfl trivial ?_
   refine EndsP.mk rfl rfl rfl ?_
   have hc':wth ([c.lose,c.gain,c.like,c.turn].getD k 0) 0 100=false:=by simpa using hc
   show iv _=iv _
   unfold ckCosts
   rw [if_neg]
   intro h
   simp only [Bool.and_eq_true] at h
   match k,hk,hc' with
   | 0,_,hc'=>exact absurd (h.1.1.symm.trans hc') (by decide)
   | 1,_,hc'=>exact absurd (h.1.2.symm.trans hc') (by decide)
   | 2,_,hc'=>exact absurd (h.2.1.symm.trans hc') (by decide)
   | 3,_,hc'=>exact absurd (h.2.2.symm.trans hc') (by decide)
  ·refine VSt.run tb_ok false [] 200 rfl trivial ?_
   refine ⟨by (refine Vw.drop (by repeat (first | exact wf_nil | refine wf_back rfl rfl rfl ?_ | refine wf_cons rfl ‹_› (ren_only _ ‹_›) ?_))),fun i hi=>?_⟩
   by_cases e:i=k
   ·subst e;simpa using hc
   ·exact hp i (by omega)
 ·refine VSt.run tb_ok false [] 200 rfl trivial ?_
  refine EndsP.mk rfl rfl rfl ?_
  show iv _=iv _
  unfold ckCosts
  have h0:=hp 0 (by omega)
  have h1:=hp 1 (by omega)
  have h2:=hp 2 (by omega)
  have h3:=hp 3 (by omega)
  simp only [List.getD_cons_zero,List.getD_cons_succ] at h0 h1 h2 h3
  rw [h0,h1,h2,h3];rfl
end Go.Proofs.YtncpeobcgmkkbaaGreat
/- Walks: comparing; the index of a copy. -/
set_option maxRecDepth 100000
namespace Go.Proofs.YtncpeobcgmkkbaaGreat
variable {r:Tr (List Value×TypeId)}
theorem isNaN_ok (a:Int):VP (sE r) 117 [iv a] (bv false):=by
 refine VP.of (fn:=Tryz.f117) tb_ok rfl (by kernel_rfl) rfl rfl rfl ?_
 refine VSt.run tb_ok false [] 200 rfl trivial ?_
 refine EndsP.mk rfl rfl rfl ?_
 show bv (!(a==a))=_
 rw [beq_self_eq_true];rfl
def cmpI (a b:Int):Int:=if a<b then -1 else if a > b then 1 else 0
theorem compare_ok (a b:Int):VP (sE r) 86 [iv a,iv b] (iv (cmpI a b)):=by
 refine VP.of (fn:=Tryz.f86) tb_ok rfl (by kernel_rfl) rfl rfl rfl ?_
 refine VSt.run tb_ok false [] 200 rfl trivial ?_
 first | refine VSt.pc rfl rfl rfl rfl rfl rfl rfl rfl ((isNaN_ok a)) ?_ | refine VSt.pcD rfl rfl rfl rfl rfl rfl rfl rfl ((isNaN_ok a)) ?_
 refine VSt.run tb_ok false [] 200 rfl trivial ?_
 first | refine VSt.pc rfl rfl rfl rfl rfl rfl rfl rfl ((isNaN_ok b)) ?_ | refine VSt.pcD rfl rfl rfl rfl rfl rfl rfl rfl ((isNaN_ok b)) ?_
 refine VSt.run tb_ok false [] 200 rfl trivial ?_
 refine VSt.cond rfl (fun h=>Bool.noConfusion h) (fun _=>?_)
 refine VSt.run tb_ok false [] 200 rfl trivial ?_
 refine VSt.cond rfl (fun h=>Bool.noConfusion h) (fun _=>?_)
 refine VSt.run tb_ok false [] 200 rfl trivial ?_
 refine VSt.cond rfl (fun h=>?_) (fun h=>?_)
 ·refine VSt.run tb_ok false [] 200 rfl trivial ?_
  refine EndsP.mk rfl rfl rfl ?_
  show iv _=iv _
  unfold cmpI;rw [if_pos (of_decide_eq_true h)]
 ·refine VSt.run tb_ok false [] 200 rfl trivial ?_
  have h:=of_decide_eq_false h
  refine VSt.cond rfl (fun h2=>?_) (fun h2=>?_)
  ·refine VSt.run tb_ok false [] 200 rfl trivial ?_
   refine EndsP.mk rfl rfl rfl ?_
   show iv _=iv _
   unfold cmpI;rw [if_neg h,if_pos (of_decide_eq_true h2)]
  ·refine VSt.run tb_ok false [] 200 rfl trivial ?_
   refine EndsP.mk rfl rfl rfl ?_
   show iv _=iv _
   unfold cmpI;rw [if_neg h,if_neg (of_decide_eq_false h2)]
def orI (l:List Int):Int:=match l.find? (fun x=>!(x==0)) with
 | some x=>x
 | none=>0
theorem or_ok {b:Bool} {l:List Int} (hn:l.length<9223372036854775808):VP (sE r) 113 [.p (eInts b l)] (iv (orI l)):=by
 refine VP.of (fn:=Tryz.f113) tb_ok rfl (by kernel_rfl) rfl rfl rfl ?_
 refine VSt.run tb_ok false [] 200 rfl trivial ?_
 refine VSt.rangeF tb_ok l.length (by omega) (fun _=>[(6,.p (eInts b l)),(3,iv 0)]) (fun _=>[]) (fun k=>∀ i,i<k→(!(l.getD i 0==0))=false) rfl rfl (fun _=>rfl) ?_ (fun i hi=>absurd hi (Nat.not_lt_zero i)) (fun k hk hp=>?_) (fun hp=>?_)
 ·(refine Vw.drop (by repeat (first | exact wf_nil | refine wf_back rfl rfl rfl ?_ | refine wf_cons rfl ‹_› (ren_only _ ‹_›) ?_)))
 ·refine VSt.run tb_ok false [] 200 rfl (⟨hk,rfl⟩) ?_
  refine VSt.cond rfl (fun hc=>?_) (fun hc=>?_)
  ·refine VSt.run tb_ok false [] 200 rfl trivial ?_
   refine EndsP.mk rfl rfl rfl ?_
   show iv _=iv _
   unfold orI
   have:l.find? (fun x=>!(x==0))=some (l.getD k 0):=by
    rw [List.find?_eq_some_iff_getElem]
    refine ⟨hc,k,hk,(getD_get hk).symm,fun j hj=>?_⟩
    have:=hp j hj
    rw [getD_get (by omega)] at this
    rw [this];rfl
   rw [this]
  ·refine VSt.run tb_ok false [] 200 rfl trivial ?_
   refine ⟨by (refine Vw.drop (by repeat (first | exact wf_nil | refine wf_back rfl rfl rfl ?_ | refine wf_cons rfl ‹_› (ren_only _ ‹_›) ?_))),fun i hi=>?_⟩
   by_cases e:i=k
   ·subst e;exact hc
   ·exact hp i (by omega)
 ·refine VSt.run tb_ok false [] 200 rfl trivial ?_
  refine EndsP.mk rfl rfl rfl ?_
  show iv _=iv _
  unfold orI
  have:l.find? (fun x=>!(x==0))=none:=by
   rw [List.find?_eq_none]
   intro x hx
   obtain ⟨k,hk,rfl⟩:=List.mem_iff_getElem.1 hx
   have:=hp k hk
   rw [getD_get hk] at this
   rw [this];decide
  rw [this]
structure Never where
 src:Int
 dst:Int
instance:Inhabited Never:=⟨⟨0,0⟩⟩
def eNever (n:Never):List PV:=[.int .i64 n.src,.int .i64 n.dst]
def eNevers (b:Bool) (l:List Never):PV:=.lst 57 b l.length fun k=>eNever (l.getD k default)
def cmpN (a b:Never):Int:=if cmpI a.src b.src=0 then cmpI a.dst b.dst else cmpI a.src b.src
theorem compareNever_ok (a b:Never):VP (sE r) 82 [.agg ((eNever a).map .p),.agg ((eNever b).map .p)] (iv (cmpN a b)):=by
 refine VP.of (fn:=Tryz.f82) tb_ok rfl (by kernel_rfl) rfl rfl rfl ?_
 refine VSt.run tb_ok false [] 200 rfl trivial ?_
 first | refine VSt.pc rfl rfl rfl rfl rfl rfl rfl rfl ((compare_ok a.src b.src)) ?_ | refine VSt.pcD rfl rfl rfl rfl rfl rfl rfl rfl ((compare_ok a.src b.src)) ?_
 refine VSt.run tb_ok false [] 200 rfl trivial ?_
 first | refine VSt.pc rfl rfl rfl rfl rfl rfl rfl rfl ((compare_ok a.dst b.dst)) ?_ | refine VSt.pcD rfl rfl rfl rfl rfl rfl rfl rfl ((compare_ok a.dst b.dst)) ?_
 refine VSt.run tb_ok false [] 200 rfl trivial ?_
 first | refine VSt.pc rfl rfl rfl rfl rfl rfl rfl rfl ((VP.imp (or_ok (b:=false) (l:=[cmpI a.src b.src,cmpI a.dst b.dst]) (by simp)) ⟨AImp.lst fun k hk=>bs_ints [cmpI a.src b.src,cmpI a.dst b.dst] k hk,trivial⟩)) ?_ | refine VSt.pcD rfl rfl rfl rfl rfl rfl rfl rfl ((VP.imp (or_ok (b:=false) (l:=[cmpI a.src b.src,cmpI a.dst b.dst]) (by simp)) ⟨AImp.lst fun k hk=>bs_ints [cmpI a.src b.src,cmpI a.dst b.dst] k hk,trivial⟩)) ?_
 refine VSt.run tb_ok false [] 200 rfl trivial ?_
 refine EndsP.mk rfl rfl rfl ?_
 show iv _=iv _
 unfold orI cmpN
 by_cases h:cmpI a.src b.src=0
 ·rw [if_pos h]
  by_cases h2:cmpI a.dst b.dst=0
  ·simp [h,h2]
  ·simp [h,h2]
 ·rw [if_neg h];simp [h]
theorem index1_ok (c:Copy) (id:Int):VP (sE r) 112 [.agg ((eCopy c).map .p),.p (.fp [.int .i64 id] 0)] (bv (c.id==id)):=by
 refine VP.of (fn:=Tryz.f112) tb_ok rfl (by kernel_rfl) rfl rfl rfl ?_
 refine VSt.run tb_ok false [] 200 rfl trivial ?_
 exact EndsP.mk rfl rfl rfl rfl
def idxC (l:List Copy) (p:Copy→Bool):Int:=match l.findIdx? p with
 | some k=>k
 | none=> -1
theorem idxC_hit {l:List Copy} {k:Nat} {p:Copy→Bool} (hk:k<l.length) (h:p (l.getD k default)=true) (hb:∀ i,i<k→p (l.getD i default)=false):idxC l p=k:=by
 unfold idxC
 have:l.findIdx? p=some k:=by
  rw [List.findIdx?_eq_some_iff_getElem]
  refine ⟨hk,by rw [getD_get hk] at h;exact h,fun j hj=>?_⟩
  have:=hb j hj
  rw [getD_get (by omega)] at this
  simp [this]
 rw [this]
theorem idxC_miss {l:List Copy} {p:Copy→Bool} (hb:∀ i,i<l.length→p (l.getD i default)=false):idxC l p = -1:=by
 unfold idxC
 have:l.findIdx? p=none:=by
  rw [List.findIdx?_eq_none_iff]
  intro x hx
  obtain ⟨k,hk,rfl⟩:=List.mem_iff_getElem.1 hx
  have:=hb k hk
  rwa [getD_get hk] at this
 rw [this]
theorem idxCopy_ok {b:Bool} {l:List Copy} {f:Nat} {first cap:List AV} {p:Copy→Bool} (hn:l.length<9223372036854775808) (hon:(AV.fn f first cap).only (olds [])=true) (hoc:∀ x,AV.onlys (olds []) (first++([.agg ((eCopy x).map .p)]++cap))=true) (hf:∀ x,VP (sE r) f (first++([.agg ((eCopy x).map .p)]++cap)) (bv (p x))) :
  VP (sE r) 111 [.p (eCopies b l),.fn f first cap] (iv (idxC l p)):=by
 refine VP.of (fn:=Tryz.f111) tb_ok rfl (by kernel_rfl) rfl rfl rfl ?_
 refine VSt.run tb_ok false [] 200 rfl trivial ?_
 refine VSt.rangeF tb_ok l.length (by omega) (fun _=>[(0,.p (eCopies b l)),(1,.fn f first cap)]) (fun _=>[]) (fun k=>∀ i,i<k→p (l.getD i default)=false) rfl rfl (fun _=>rfl) ?_ (fun i hi=>absurd hi (Nat.not_lt_zero i)) (fun k hk hp=>?_) (fun hp=>?_)
 ·(refine Vw.drop (by repeat (first | exact wf_nil | refine wf_back rfl rfl rfl ?_ | refine wf_cons rfl ‹_› (ren_only _ ‹_›) ?_)))
 ·refine VSt.run tb_ok false [] 200 rfl (⟨hk,rfl⟩) ?_
  refine VSt.pcall (hf (l.getD k default)) rfl rfl rfl rfl rfl rfl (hoc _) ?_
  refine VSt.run tb_ok false [] 200 rfl trivial ?_
  refine VSt.cond rfl (fun hc=>?_) (fun hc=>?_)
  ·refine VSt.run tb_ok false [] 200 rfl trivial ?_
   refine EndsP.mk rfl rfl rfl ?_
   rw [idxC_hit hk hc hp];rfl
  ·refine VSt.run tb_ok false [] 200 rfl trivial ?_
   refine ⟨by (refine Vw.drop (by repeat (first | exact wf_nil | refine wf_back rfl rfl rfl ?_ | refine wf_cons rfl ‹_› (ren_only _ ‹_›) ?_))),fun i hi=>?_⟩
   by_cases e:i=k
   ·subst e;exact hc
   ·exact hp i (by omega)
 ·refine VSt.run tb_ok false [] 200 rfl trivial ?_
  refine EndsP.mk rfl rfl rfl ?_
  rw [idxC_miss hp];rfl
structure Stem where
 cn:Bool
 copies:List Copy
 costs:Costs
 nn:Bool
 never:List Never
def eStem (s:Stem):List PV:=eCopies s.cn s.copies::(eCosts s.costs++[eNevers s.nn s.never])
theorem index_ok (s:Stem) (id:Int) (hn:s.copies.length<9223372036854775808):VP (sE r) 80 [.agg ((eStem s).map .p),iv id] (iv (idxC s.copies fun c=>c.id==id)):=by
 refine VP.of (fn:=Tryz.f80) tb_ok rfl (by kernel_rfl) rfl rfl rfl ?_
 refine VSt.run tb_ok false [] 200 rfl trivial ?_
 refine VSt.viewO (Vw.freezeC 1 [.int .i64 id] rfl rfl) ?_
 first | refine VSt.pc rfl rfl rfl rfl rfl rfl rfl rfl ((idxCopy_ok (b:=s.cn) (first:=[]) (cap:=[.p (.fp [.int .i64 id] 0)]) (p:=fun c=>c.id==id) hn rfl (fun _=>rfl) (fun x=>index1_ok x id))) ?_ | refine VSt.pcD rfl rfl rfl rfl rfl rfl rfl rfl ((idxCopy_ok (b:=s.cn) (first:=[]) (cap:=[.p (.fp [.int .i64 id] 0)]) (p:=fun c=>c.id==id) hn rfl (fun _=>rfl) (fun x=>index1_ok x id))) ?_
 refine VSt.run tb_ok false [] 200 rfl trivial ?_
 exact EndsP.mk rfl rfl rfl rfl
end Go.Proofs.YtncpeobcgmkkbaaGreat
/- Walks: the check of a stem. -/
set_option maxRecDepth 100000
namespace Go.Proofs.YtncpeobcgmkkbaaGreat
variable {r:Tr (List Value×TypeId)}
def badC (cs:List Copy) (k:Nat):Bool:=!(ckCopy (cs.getD k default)==0)||(decide (0<k)&&decide ((cs.getD k default).id≤(cs.getD (k - 1) default).id) || !(Int.ofNat (cs.getD k default).words.length==Int.ofNat (cs.getD 0 default).words.length))
def place (s:Stem) (id:Int):Int:=idxC s.copies fun c=>c.id==id
def badN (s:Stem) (k:Nat):Bool:=(s.never.getD k default).src==(s.never.getD k default).dst||(decide (place s (s.never.getD k default).src<0)||(decide (place s (s.never.getD k default).dst<0)||(decide (0<k)&&decide (0≤cmpN (s.never.getD (k - 1) default) (s.never.getD k default)))))
def ckStem (s:Stem):Int:=if (decide (7<Int.ofNat s.copies.length)||(decide (40<Int.ofNat s.never.length)||(!(ckCosts s.costs==0)||((List.range s.copies.length).any (badC s.copies)||(List.range s.never.length).any (badN s)))))=true then 42 else 0
structure Stem.Ok (s:Stem):Prop where
 c:s.copies.length<9223372036854775808
 w:∀ k,k<s.copies.length→(s.copies.getD k default).words.length<9223372036854775808
 n:s.never.length<9223372036854775808
theorem any_range_false {n:Nat} {p:Nat→Bool} (h:∀ i,i<n→p i=false):(List.range n).any p=false:=by
 rw [List.any_eq_false];intro x hx;simp [h x (List.mem_range.1 hx)]
theorem any_range_true {n k:Nat} {p:Nat→Bool} (hk:k<n) (h:p k=true):(List.range n).any p=true:=List.any_eq_true.2 ⟨k,List.mem_range.2 hk,h⟩
theorem check_ok (s:Stem) (hs:s.Ok):VP (sE r) 37 [.agg ((eStem s).map .p)] (iv (ckStem s)):=by
 refine VP.of (fn:=Tryz.f37) tb_ok rfl (by kernel_rfl) rfl rfl rfl ?_
 refine VSt.run tb_ok false [] 200 rfl trivial ?_
 first | refine VSt.splitO 11 rfl (fun h1=>?_) (fun h1=>?_) | refine VSt.splitD 11 rfl (fun h1=>?_) (fun h1=>?_)
 ·refine VSt.run tb_ok false [] 200 rfl trivial ?_
  refine EndsP.mk rfl rfl rfl ?_
  show iv _=iv _
  unfold ckStem;rw [h1];rfl
 refine VSt.run tb_ok false [] 200 rfl trivial ?_
 first | refine VSt.splitO 17 rfl (fun h2=>?_) (fun h2=>?_) | refine VSt.splitD 17 rfl (fun h2=>?_) (fun h2=>?_)
 ·refine VSt.run tb_ok false [] 200 rfl trivial ?_
  refine EndsP.mk rfl rfl rfl ?_
  show iv _=iv _
  unfold ckStem;rw [h1,show decide (40<Int.ofNat s.never.length)=true from h2];rfl
 refine VSt.run tb_ok false [] 200 rfl trivial ?_
 first | refine VSt.pc rfl rfl rfl rfl rfl rfl rfl rfl ((checkCosts_ok s.costs)) ?_ | refine VSt.pcD rfl rfl rfl rfl rfl rfl rfl rfl ((checkCosts_ok s.costs)) ?_
 refine VSt.run tb_ok false [] 200 rfl trivial ?_
 refine VSt.cond rfl (fun h3=>?_) (fun h3=>?_)
 ·refine VSt.run tb_ok false [] 200 rfl trivial ?_
  refine EndsP.mk rfl rfl rfl ?_
  show iv _=iv _
  unfold ckStem;rw [h1,show decide (40<Int.ofNat s.never.length)=false from h2,h3];rfl
 refine VSt.run tb_ok false [] 200 rfl trivial ?_
 refine VSt.viewC (Vw.freezeC 0 (eStem s) rfl rfl) ?_
 refine VSt.rangeF tb_ok s.copies.length (by have:=hs.c;omega) (fun _=>[(1,.p (.fp (eStem s) 0)),(24,.p (eCopies s.cn s.copies))]) (fun _=>[]) (fun k=>∀ i,i<k→badC s.copies i=false) rfl rfl (fun _=>rfl) ?_ (fun i hi=>absurd hi (Nat.not_lt_zero i)) (fun k hk hp=>?_) (fun hp=>?_)
 ·(refine Vw.drop (by repeat (first | exact wf_nil | refine wf_back rfl rfl rfl ?_ | refine wf_cons rfl ‹_› (ren_only _ ‹_›) ?_)))
 ·have bad:badC s.copies k=true→ckStem s=42:=fun h=>by
   unfold ckStem
   rw [h1,show decide (40<Int.ofNat s.never.length)=false from h2,h3,any_range_true hk h];rfl
  refine VSt.run tb_ok false [] 200 rfl (⟨hk,rfl⟩) ?_
  first | refine VSt.pc rfl rfl rfl rfl rfl rfl rfl rfl ((checkCopy_ok (s.copies.getD k default) (hs.w k hk))) ?_ | refine VSt.pcD rfl rfl rfl rfl rfl rfl rfl rfl ((checkCopy_ok (s.copies.getD k default) (hs.w k hk))) ?_
  refine VSt.run tb_ok false [] 200 rfl trivial ?_
  first | refine VSt.splitO 34 rfl (fun g1=>?_) (fun g1=>?_) | refine VSt.splitD 34 rfl (fun g1=>?_) (fun g1=>?_)
  ·refine VSt.run tb_ok false [] 200 rfl trivial ?_
   refine EndsP.mk rfl rfl rfl ?_
   show iv _=iv _
   rw [bad (by unfold badC;rw [g1];rfl)]
  refine VSt.run tb_ok false [] 200 rfl trivial ?_
  first | refine VSt.splitO 37 rfl (fun g2=>?_) (fun g2=>?_) | refine VSt.splitD 37 rfl (fun g2=>?_) (fun g2=>?_)
  ·have g2':0<k:=by have:=of_decide_eq_true g2;simp only [Int.ofNat_eq_natCast] at this;omega
   have g2'':decide (0<k)=true:=decide_eq_true g2'
   refine VSt.run tb_ok false [42] 200 rfl ((by show inR _;unfold inR;simp only [Int.ofNat_eq_natCast];have:=hs.c;omega)) ?_
   refine VSt.putD 41 (nv (k - 1)) rfl (iv_nv (by simp only [Int.ofNat_eq_natCast];omega)) ?_
   refine VSt.run tb_ok false [] 200 rfl (⟨by omega,rfl⟩) ?_
   first | refine VSt.splitO 50 rfl (fun g3=>?_) (fun g3=>?_) | refine VSt.splitD 50 rfl (fun g3=>?_) (fun g3=>?_)
   ·refine VSt.run tb_ok false [] 200 rfl trivial ?_
    refine EndsP.mk rfl rfl rfl ?_
    show iv _=iv _
    rw [bad (by unfold badC;rw [g1,g2'',g3];rfl)]
   refine VSt.run tb_ok false [] 200 rfl (⟨Nat.zero_lt_of_lt hk,rfl⟩) ?_
   refine VSt.cond rfl (fun g4=>?_) (fun g4=>?_)
   ·refine VSt.run tb_ok false [] 200 rfl trivial ?_
    refine EndsP.mk rfl rfl rfl ?_
    show iv _=iv _
    rw [bad (by unfold badC;rw [g1,g2'',g3,g4];rfl)]
   refine VSt.run tb_ok false [] 200 rfl trivial ?_
   refine ⟨by (refine Vw.drop (by repeat (first | exact wf_nil | refine wf_back rfl rfl rfl ?_ | refine wf_cons rfl ‹_› (ren_only _ ‹_›) ?_))),fun i hi=>?_⟩
   by_cases e:i=k
   ·subst e;unfold badC;rw [g1,g2'',g3,g4];rfl
   ·exact hp i (by omega)
  ·have g2':k=0:=by have:=of_decide_eq_false g2;simp only [Int.ofNat_eq_natCast] at this;omega
   refine VSt.run tb_ok false [] 200 rfl (⟨Nat.zero_lt_of_lt hk,rfl⟩) ?_
   refine VSt.cond rfl (fun g4=>?_) (fun g4=>?_)
   ·refine VSt.run tb_ok false [] 200 rfl trivial ?_
    refine EndsP.mk rfl rfl rfl ?_
    show iv _=iv _
    subst g2'
    rw [bad (by unfold badC;rw [g1,g4];rfl)]
   refine VSt.run tb_ok false [] 200 rfl trivial ?_
   refine ⟨by (refine Vw.drop (by repeat (first | exact wf_nil | refine wf_back rfl rfl rfl ?_ | refine wf_cons rfl ‹_› (ren_only _ ‹_›) ?_))),fun i hi=>?_⟩
   by_cases e:i=k
   ·subst e;subst g2';unfold badC;rw [g1,g4];rfl
   ·exact hp i (by omega)
 have okC:=any_range_false hp
 refine VSt.run tb_ok false [] 200 rfl trivial ?_
 refine VSt.rangeF tb_ok s.never.length (by have:=hs.n;omega) (fun _=>[(1,.p (.fp (eStem s) 0)),(64,.p (eNevers s.nn s.never))]) (fun _=>[]) (fun k=>∀ i,i<k→badN s i=false) rfl rfl (fun _=>rfl) ?_ (fun i hi=>absurd hi (Nat.not_lt_zero i)) (fun k hk hp=>?_) (fun hp=>?_)
 ·(refine Vw.drop (by repeat (first | exact wf_nil | refine wf_back rfl rfl rfl ?_ | refine wf_cons rfl ‹_› (ren_only _ ‹_›) ?_)))
 ·have bad:badN s k=true→ckStem s=42:=fun h=>by
   unfold ckStem
   rw [h1,show decide (40<Int.ofNat s.never.length)=false from h2,h3,okC,any_range_true hk h];rfl
  refine VSt.run tb_ok false [] 200 rfl (⟨hk,rfl⟩) ?_
  first | refine VSt.splitO 76 rfl (fun g1=>?_) (fun g1=>?_) | refine VSt.splitD 76 rfl (fun g1=>?_) (fun g1=>?_)
  ·refine VSt.run tb_ok false [] 200 rfl trivial ?_
   refine EndsP.mk rfl rfl rfl ?_
   show iv _=iv _
   rw [bad (by unfold badN;rw [g1];rfl)]
  refine VSt.run tb_ok false [] 200 rfl trivial ?_
  first | refine VSt.pc rfl rfl rfl rfl rfl rfl rfl rfl ((index_ok s (s.never.getD k default).src hs.c)) ?_ | refine VSt.pcD rfl rfl rfl rfl rfl rfl rfl rfl ((index_ok s (s.never.getD k default).src hs.c)) ?_
  refine VSt.run tb_ok false [] 200 rfl trivial ?_
  first | refine VSt.splitO 83 rfl (fun g2=>?_) (fun g2=>?_) | refine VSt.splitD 83 rfl (fun g2=>?_) (fun g2=>?_)
  ·refine VSt.run tb_ok false [] 200 rfl trivial ?_
   refine EndsP.mk rfl rfl rfl ?_
   show iv _=iv _
   rw [bad (by unfold badN;rw [g1,show decide (place s _<0)=true from g2];rfl)]
  refine VSt.run tb_ok false [] 200 rfl trivial ?_
  first | refine VSt.pc rfl rfl rfl rfl rfl rfl rfl rfl ((index_ok s (s.never.getD k default).dst hs.c)) ?_ | refine VSt.pcD rfl rfl rfl rfl rfl rfl rfl rfl ((index_ok s (s.never.getD k default).dst hs.c)) ?_
  refine VSt.run tb_ok false [] 200 rfl trivial ?_
  first | refine VSt.splitO 90 rfl (fun g3=>?_) (fun g3=>?_) | refine VSt.splitD 90 rfl (fun g3=>?_) (fun g3=>?_)
  ·refine VSt.run tb_ok false [] 200 rfl trivial ?_
   refine EndsP.mk rfl rfl rfl ?_
   show iv _=iv _
   rw [bad (by unfold badN;rw [g1,show decide (place s _<0)=false from g2,show decide (place s _<0)=true from g3];rfl)]
  refine VSt.run tb_ok false [] 200 rfl trivial ?_
  first | refine VSt.splitO 93 rfl (fun g4=>?_) (fun g4=>?_) | refine VSt.splitD 93 rfl (fun g4=>?_) (fun g4=>?_)
  ·have g4':0<k:=by have:=of_decide_eq_true g4;simp only [Int.ofNat_eq_natCast] at this;omega
   have g4'':decide (0<k)=true:=decide_eq_true g4'
   refine VSt.run tb_ok false [98] 200 rfl ((by show inR _;unfold inR;simp only [Int.ofNat_eq_natCast];have:=hs.n;omega)) ?_
   refine VSt.putD 97 (nv (k - 1)) rfl (iv_nv (by simp only [Int.ofNat_eq_natCast];omega)) ?_
   refine VSt.run tb_ok false [] 200 rfl (⟨by omega,rfl⟩) ?_
   first | refine VSt.pc rfl rfl rfl rfl rfl rfl rfl rfl ((compareNever_ok (s.never.getD (k - 1) default) (s.never.getD k default))) ?_ | refine VSt.pcD rfl rfl rfl rfl rfl rfl rfl rfl ((compareNever_ok (s.never.getD (k - 1) default) (s.never.getD k default))) ?_
   refine VSt.run tb_ok false [] 200 rfl trivial ?_
   refine VSt.cond rfl (fun g5=>?_) (fun g5=>?_)
   ·refine VSt.run tb_ok false [] 200 rfl trivial ?_
    refine EndsP.mk rfl rfl rfl ?_
    show iv _=iv _
    rw [bad (by unfold badN;rw [g1,show decide (place s _<0)=false from g2,show decide (place s _<0)=false from g3,g4'',g5];rfl)]
   refine VSt.run tb_ok false [] 200 rfl trivial ?_
   refine ⟨by (refine Vw.drop (by repeat (first | exact wf_nil | refine wf_back rfl rfl rfl ?_ | refine wf_cons rfl ‹_› (ren_only _ ‹_›) ?_))),fun i hi=>?_⟩
   by_cases e:i=k
   ·subst e;unfold badN;rw [g1,show decide (place s _<0)=false from g2,show decide (place s _<0)=false from g3,g4'',g5];rfl
   ·exact hp i (by omega)
  ·have g4':k=0:=by have:=of_decide_eq_false g4;simp only [Int.ofNat_eq_natCast] at this;omega
   refine VSt.run tb_ok false [] 200 rfl trivial ?_
   refine ⟨by (refine Vw.drop (by repeat (first | exact wf_nil | refine wf_back rfl rfl rfl ?_ | refine wf_cons rfl ‹_› (ren_only _ ‹_›) ?_))),fun i hi=>?_⟩
   by_cases e:i=k
   ·subst e;subst g4';unfold badN;rw [g1,show decide (place s _<0)=false from g2,show decide (place s _<0)=false from g3];rfl
   ·exact hp i (by omega)
 refine VSt.run tb_ok false [] 200 rfl trivial ?_
 refine EndsP.mk rfl rfl rfl ?_
 show iv _=iv _
 unfold ckStem
 rw [h1,show decide (40<Int.ofNat s.never.length)=false from h2,h3,okC,any_range_false hp];rfl
end Go.Proofs.YtncpeobcgmkkbaaGreat
/- Walks: the specification's checks. -/
set_option maxRecDepth 100000
namespace Go.Proofs.YtncpeobcgmkkbaaGreat
variable {r:Tr (List Value×TypeId)}
theorem rWithin_ok (n lo hi:Int):VP (sE r) 74 [iv n,iv lo,iv hi] (bv (wth n lo hi)):=by
 refine VP.of (fn:=Tryz.f74) tb_ok rfl (by kernel_rfl) rfl rfl rfl ?_
 refine VSt.run tb_ok false [] 200 rfl trivial ?_
 first | refine VSt.splitO 10 rfl (fun h=>?_) (fun h=>?_) | refine VSt.splitD 10 rfl (fun h=>?_) (fun h=>?_)
 all_goals
  refine VSt.run tb_ok false [] 200 rfl trivial ?_
  refine EndsP.mk rfl rfl rfl ?_
  show bv _=bv _
  unfold wth;rw [h];rfl
theorem rCheckCopy_ok (c:Copy) (hn:c.words.length<9223372036854775808):VP (sE r) 46 [.agg ((eCopy c).map .p)] (iv (ckCopy c)):=by
 refine VP.of (fn:=Tryz.f46) tb_ok rfl (by kernel_rfl) rfl rfl rfl ?_
 refine VSt.run tb_ok false [] 200 rfl trivial ?_
 first | refine VSt.pc rfl rfl rfl rfl rfl rfl rfl rfl ((rWithin_ok c.id 1 99)) ?_ | refine VSt.pcD rfl rfl rfl rfl rfl rfl rfl rfl ((rWithin_ok c.id 1 99)) ?_
 refine VSt.run tb_ok false [] 200 rfl trivial ?_
 first | refine VSt.splitO 9 rfl (fun h=>?_) (fun h=>?_) | refine VSt.splitD 9 rfl (fun h=>?_) (fun h=>?_)
 ·refine VSt.run tb_ok false [] 200 rfl trivial ?_
  refine EndsP.mk rfl rfl rfl ?_
  show iv _=iv _
  unfold ckCopy;rw [h];rfl
 refine VSt.run tb_ok false [] 200 rfl trivial ?_
 first | refine VSt.pc rfl rfl rfl rfl rfl rfl rfl rfl ((rWithin_ok (Int.ofNat c.words.length) 1 16)) ?_ | refine VSt.pcD rfl rfl rfl rfl rfl rfl rfl rfl ((rWithin_ok (Int.ofNat c.words.length) 1 16)) ?_
 refine VSt.run tb_ok false [] 200 rfl trivial ?_
 refine VSt.cond rfl (fun h2=>?_) (fun h2=>?_)
 ·refine VSt.run tb_ok false [] 200 rfl trivial ?_
  refine EndsP.mk rfl rfl rfl ?_
  show iv _=iv _
  change (!wth (c.words.length:Int) 1 16)=true at h2
  unfold ckCopy;rw [h,h2];rfl
 change (!wth (c.words.length:Int) 1 16)=false at h2
 refine VSt.run tb_ok false [] 200 rfl trivial ?_
 refine VSt.rangeF tb_ok c.words.length (by omega) (fun _=>[(17,.p (eInts c.wn c.words))]) (fun _=>[]) (fun k=>∀ i,i<k→badW (c.words.getD i 0)=false) rfl rfl (fun _=>rfl) ?_ (fun i hi=>absurd hi (Nat.not_lt_zero i)) (fun k hk hp=>?_) (fun hp=>?_)
 ·(refine Vw.drop (by repeat (first | exact wf_nil | refine wf_back rfl rfl rfl ?_ | refine wf_cons rfl ‹_› (ren_only _ ‹_›) ?_)))
 ·refine VSt.run tb_ok false [] 200 rfl (⟨hk,rfl⟩) ?_
  first | refine VSt.pc rfl rfl rfl rfl rfl rfl rfl rfl ((rWithin_ok (c.words.getD k 0) 0 99)) ?_ | refine VSt.pcD rfl rfl rfl rfl rfl rfl rfl rfl ((rWithin_ok (c.words.getD k 0) 0 99)) ?_
  refine VSt.run tb_ok false [] 200 rfl trivial ?_
  refine VSt.cond rfl (fun h3=>?_) (fun h3=>?_)
  ·refine VSt.run tb_ok false [] 200 rfl trivial ?_
   refine EndsP.mk rfl rfl rfl ?_
   show iv _=iv _
   have:c.words.any badW=true:=List.any_eq_true.2 ⟨_,List.getElem_mem hk,by rw [getD_get hk] at h3;exact h3⟩
   unfold ckCopy;rw [h,h2,this];rfl
  refine VSt.run tb_ok false [] 200 rfl trivial ?_
  refine ⟨by (refine Vw.drop (by repeat (first | exact wf_nil | refine wf_back rfl rfl rfl ?_ | refine wf_cons rfl ‹_› (ren_only _ ‹_›) ?_))),fun i hi=>?_⟩
  by_cases e:i=k
  ·subst e;exact h3
  ·exact hp i (by omega)
 refine VSt.run tb_ok false [] 200 rfl trivial ?_
 refine EndsP.mk rfl rfl rfl ?_
 show iv _=iv _
 have:c.words.any badW=false:=by
  rw [List.any_eq_false]
  intro x hx
  obtain ⟨k,hk,rfl⟩:=List.mem_iff_getElem.1 hx
  have:=hp k hk
  rw [getD_get hk] at this
  rw [this];decide
 unfold ckCopy;rw [h,h2,this];rfl
theorem rCheckCosts_ok (c:Costs):VP (sE r) 48 [.agg ((eCosts c).map .p)] (iv (ckCosts c)):=by
 refine VP.of (fn:=Tryz.f48) tb_ok rfl (by kernel_rfl) rfl rfl rfl ?_
 refine VSt.run tb_ok false [] 200 rfl trivial ?_
 first | refine VSt.pc rfl rfl rfl rfl rfl rfl rfl rfl ((rWithin_ok c.lose 0 100)) ?_ | refine VSt.pcD rfl rfl rfl rfl rfl rfl rfl rfl ((rWithin_ok c.lose 0 100)) ?_
 refine VSt.run tb_ok false [] 200 rfl trivial ?_
 first | refine VSt.splitO 7 rfl (fun h1=>?_) (fun h1=>?_) | refine VSt.splitD 7 rfl (fun h1=>?_) (fun h1=>?_)
 ·refine VSt.run tb_ok false [] 200 rfl trivial ?_
  refine EndsP.mk rfl rfl rfl ?_
  show iv _=iv _
  unfold ckCosts;rw [show wth c.lose 0 100=false by simpa using h1];rfl
 refine VSt.run tb_ok false [] 200 rfl trivial ?_
 first | refine VSt.pc rfl rfl rfl rfl rfl rfl rfl rfl ((rWithin_ok c.gain 0 100)) ?_ | refine VSt.pcD rfl rfl rfl rfl rfl rfl rfl rfl ((rWithin_ok c.gain 0 100)) ?_
 refine VSt.run tb_ok false [] 200 rfl trivial ?_
 first | refine VSt.splitO 13 rfl (fun h2=>?_) (fun h2=>?_) | refine VSt.splitD 13 rfl (fun h2=>?_) (fun h2=>?_)
 ·refine VSt.run tb_ok false [] 200 rfl trivial ?_
  refine EndsP.mk rfl rfl rfl ?_
  show iv _=iv _
  unfold ckCosts;rw [show wth c.gain 0 100=false by simpa using h2,Bool.and_false];rfl
 refine VSt.run tb_ok false [] 200 rfl trivial ?_
 first | refine VSt.pc rfl rfl rfl rfl rfl rfl rfl rfl ((rWithin_ok c.like 0 100)) ?_ | refine VSt.pcD rfl rfl rfl rfl rfl rfl rfl rfl ((rWithin_ok c.like 0 100)) ?_
 refine VSt.run tb_ok false [] 200 rfl trivial ?_
 first | refine VSt.splitO 19 rfl (fun h3=>?_) (fun h3=>?_) | refine VSt.splitD 19 rfl (fun h3=>?_) (fun h3=>?_)
 ·refine VSt.run tb_ok false [] 200 rfl trivial ?_
  refine EndsP.mk rfl rfl rfl ?_
  show iv _=iv _
  unfold ckCosts;rw [show wth c.like 0 100=false by simpa using h3,Bool.false_and,Bool.and_false];rfl
 refine VSt.run tb_ok false [] 200 rfl trivial ?_
 first | refine VSt.pc rfl rfl rfl rfl rfl rfl rfl rfl ((rWithin_ok c.turn 0 100)) ?_ | refine VSt.pcD rfl rfl rfl rfl rfl rfl rfl rfl ((rWithin_ok c.turn 0 100)) ?_
 refine VSt.run tb_ok false [] 200 rfl trivial ?_
 refine VSt.cond rfl (fun h4=>?_) (fun h4=>?_)
 ·refine VSt.run tb_ok false [] 200 rfl trivial ?_
  refine EndsP.mk rfl rfl rfl ?_
  show iv _=iv _
  unfold ckCosts;rw [show wth c.turn 0 100=false by simpa using h4,Bool.and_false,Bool.and_false];rfl
 refine VSt.run tb_ok false [] 200 rfl trivial ?_
 refine EndsP.mk rfl rfl rfl ?_
 show iv _=iv _
 unfold ckCosts;rw [show wth c.lose 0 100=true by simpa using h1,show wth c.gain 0 100=true by simpa using h2,show wth c.like 0 100=true by simpa using h3,show wth c.turn 0 100=true by simpa using h4];rfl
theorem place_ok (s:Stem) (id:Int) (hn:s.copies.length<9223372036854775808):VP (sE r) 61 [.agg ((eStem s).map .p),iv id] (iv (place s id)):=by
 refine VP.of (fn:=Tryz.f61) tb_ok rfl (by kernel_rfl) rfl rfl rfl ?_
 refine VSt.run tb_ok false [] 200 rfl trivial ?_
 refine VSt.rangeF tb_ok s.copies.length (by omega) (fun _=>[(8,.p (eCopies s.cn s.copies)),(1,iv id)]) (fun _=>[]) (fun k=>∀ i,i<k→((s.copies.getD i default).id==id)=false) rfl rfl (fun _=>rfl) ?_ (fun i hi=>absurd hi (Nat.not_lt_zero i)) (fun k hk hp=>?_) (fun hp=>?_)
 ·(refine Vw.drop (by repeat (first | exact wf_nil | refine wf_back rfl rfl rfl ?_ | refine wf_cons rfl ‹_› (ren_only _ ‹_›) ?_)))
 ·refine VSt.run tb_ok false [] 200 rfl (⟨hk,rfl⟩) ?_
  refine VSt.cond rfl (fun hc=>?_) (fun hc=>?_)
  ·refine VSt.run tb_ok false [] 200 rfl trivial ?_
   refine EndsP.mk rfl rfl rfl ?_
   show iv _=iv _
   unfold place;rw [idxC_hit hk hc hp];rfl
  refine VSt.run tb_ok false [] 200 rfl trivial ?_
  refine ⟨by (refine Vw.drop (by repeat (first | exact wf_nil | refine wf_back rfl rfl rfl ?_ | refine wf_cons rfl ‹_› (ren_only _ ‹_›) ?_))),fun i hi=>?_⟩
  by_cases e:i=k
  ·subst e;exact hc
  ·exact hp i (by omega)
 refine VSt.run tb_ok false [] 200 rfl trivial ?_
 refine EndsP.mk rfl rfl rfl ?_
 show iv _=iv _
 unfold place;rw [idxC_miss hp]
theorem cmpN_ge (a b:Never):decide (0≤cmpN a b)=(decide (b.src<a.src)||(a.src==b.src&&decide (b.dst≤a.dst))):=by
 unfold cmpN cmpI
 by_cases h1:a.src<b.src
 ·have:¬ b.src<a.src:=by omega
  have h3:¬ a.src=b.src:=by omega
  simp [h1,this,h3]
 ·by_cases h2:b.src<a.src
  ·simp [h1,h2]
  ·have h3:a.src=b.src:=by omega
   by_cases h4:a.dst<b.dst
   ·have:¬ b.dst≤a.dst:=by omega
    simp [h3,h4,this]
   ·have:b.dst≤a.dst:=by omega
    by_cases h5:b.dst<a.dst
    ·simp [h3,h4,h5,this]
    ·simp [h3,h4,h5,this]
end Go.Proofs.YtncpeobcgmkkbaaGreat
/- Walks: the specification's check of a stem. -/
set_option maxRecDepth 100000
namespace Go.Proofs.YtncpeobcgmkkbaaGreat
variable {r:Tr (List Value×TypeId)}
theorem rCheck_ok (s:Stem) (hs:s.Ok):VP (sE r) 34 [.agg ((eStem s).map .p)] (iv (ckStem s)):=by
 refine VP.of (fn:=Tryz.f34) tb_ok rfl (by kernel_rfl) rfl rfl rfl ?_
 refine VSt.run tb_ok false [] 200 rfl trivial ?_
 first | refine VSt.splitO 11 rfl (fun h1=>?_) (fun h1=>?_) | refine VSt.splitD 11 rfl (fun h1=>?_) (fun h1=>?_)
 ·refine VSt.run tb_ok false [] 200 rfl trivial ?_
  refine EndsP.mk rfl rfl rfl ?_
  show iv _=iv _
  unfold ckStem;rw [h1];rfl
 refine VSt.run tb_ok false [] 200 rfl trivial ?_
 first | refine VSt.splitO 17 rfl (fun h2=>?_) (fun h2=>?_) | refine VSt.splitD 17 rfl (fun h2=>?_) (fun h2=>?_)
 ·refine VSt.run tb_ok false [] 200 rfl trivial ?_
  refine EndsP.mk rfl rfl rfl ?_
  show iv _=iv _
  unfold ckStem;rw [h1,show decide (40<Int.ofNat s.never.length)=true from h2];rfl
 refine VSt.run tb_ok false [] 200 rfl trivial ?_
 first | refine VSt.pc rfl rfl rfl rfl rfl rfl rfl rfl ((rCheckCosts_ok s.costs)) ?_ | refine VSt.pcD rfl rfl rfl rfl rfl rfl rfl rfl ((rCheckCosts_ok s.costs)) ?_
 refine VSt.run tb_ok false [] 200 rfl trivial ?_
 refine VSt.cond rfl (fun h3=>?_) (fun h3=>?_)
 ·refine VSt.run tb_ok false [] 200 rfl trivial ?_
  refine EndsP.mk rfl rfl rfl ?_
  show iv _=iv _
  unfold ckStem;rw [h1,show decide (40<Int.ofNat s.never.length)=false from h2,h3];rfl
 refine VSt.run tb_ok false [] 200 rfl trivial ?_
 refine VSt.viewC (Vw.freezeC 0 (eStem s) rfl rfl) ?_
 refine VSt.rangeF tb_ok s.copies.length (by have:=hs.c;omega) (fun _=>[(1,.p (.fp (eStem s) 0)),(24,.p (eCopies s.cn s.copies))]) (fun _=>[]) (fun k=>∀ i,i<k→badC s.copies i=false) rfl rfl (fun _=>rfl) ?_ (fun i hi=>absurd hi (Nat.not_lt_zero i)) (fun k hk hp=>?_) (fun hp=>?_)
 ·(refine Vw.drop (by repeat (first | exact wf_nil | refine wf_back rfl rfl rfl ?_ | refine wf_cons rfl ‹_› (ren_only _ ‹_›) ?_)))
 ·have bad:badC s.copies k=true→ckStem s=42:=fun h=>by
   unfold ckStem
   rw [h1,show decide (40<Int.ofNat s.never.length)=false from h2,h3,any_range_true hk h];rfl
  refine VSt.run tb_ok false [] 200 rfl (⟨hk,rfl⟩) ?_
  first | refine VSt.pc rfl rfl rfl rfl rfl rfl rfl rfl ((rCheckCopy_ok (s.copies.getD k default) (hs.w k hk))) ?_ | refine VSt.pcD rfl rfl rfl rfl rfl rfl rfl rfl ((rCheckCopy_ok (s.copies.getD k default) (hs.w k hk))) ?_
  refine VSt.run tb_ok false [] 200 rfl trivial ?_
  first | refine VSt.splitO 34 rfl (fun g1=>?_) (fun g1=>?_) | refine VSt.splitD 34 rfl (fun g1=>?_) (fun g1=>?_)
  ·refine VSt.run tb_ok false [] 200 rfl trivial ?_
   refine EndsP.mk rfl rfl rfl ?_
   show iv _=iv _
   rw [bad (by unfold badC;rw [g1];rfl)]
  refine VSt.run tb_ok false [] 200 rfl trivial ?_
  first | refine VSt.splitO 37 rfl (fun g2=>?_) (fun g2=>?_) | refine VSt.splitD 37 rfl (fun g2=>?_) (fun g2=>?_)
  ·have g2':0<k:=by have:=of_decide_eq_true g2;simp only [Int.ofNat_eq_natCast] at this;omega
   have g2'':decide (0<k)=true:=decide_eq_true g2'
   refine VSt.run tb_ok false [42] 200 rfl ((by show inR _;unfold inR;simp only [Int.ofNat_eq_natCast];have:=hs.c;omega)) ?_
   refine VSt.putD 41 (nv (k - 1)) rfl (iv_nv (by simp only [Int.ofNat_eq_natCast];omega)) ?_
   refine VSt.run tb_ok false [] 200 rfl (⟨by omega,rfl⟩) ?_
   first | refine VSt.splitO 48 rfl (fun g3=>?_) (fun g3=>?_) | refine VSt.splitD 48 rfl (fun g3=>?_) (fun g3=>?_)
   ·refine VSt.run tb_ok false [] 200 rfl trivial ?_
    refine EndsP.mk rfl rfl rfl ?_
    show iv _=iv _
    rw [bad (by unfold badC;rw [g1,g2'',g3];rfl)]
   refine VSt.run tb_ok false [] 200 rfl (⟨Nat.zero_lt_of_lt hk,rfl⟩) ?_
   refine VSt.cond rfl (fun g4=>?_) (fun g4=>?_)
   ·refine VSt.run tb_ok false [] 200 rfl trivial ?_
    refine EndsP.mk rfl rfl rfl ?_
    show iv _=iv _
    rw [BEq.comm] at g4
    rw [bad (by unfold badC;rw [g1,g2'',g3,g4];rfl)]
   refine VSt.run tb_ok false [] 200 rfl trivial ?_
   refine ⟨by (refine Vw.drop (by repeat (first | exact wf_nil | refine wf_back rfl rfl rfl ?_ | refine wf_cons rfl ‹_› (ren_only _ ‹_›) ?_))),fun i hi=>?_⟩
   rw [BEq.comm] at g4
   by_cases e:i=k
   ·subst e;unfold badC;rw [g1,g2'',g3,g4];rfl
   ·exact hp i (by omega)
  ·have g2':k=0:=by have:=of_decide_eq_false g2;simp only [Int.ofNat_eq_natCast] at this;omega
   refine VSt.run tb_ok false [] 200 rfl trivial ?_
   refine ⟨by (refine Vw.drop (by repeat (first | exact wf_nil | refine wf_back rfl rfl rfl ?_ | refine wf_cons rfl ‹_› (ren_only _ ‹_›) ?_))),fun i hi=>?_⟩
   by_cases e:i=k
   ·subst e;subst g2';unfold badC;rw [g1,beq_self_eq_true];rfl
   ·exact hp i (by omega)
 have okC:=any_range_false hp
 refine VSt.run tb_ok false [] 200 rfl trivial ?_
 refine VSt.rangeF tb_ok s.never.length (by have:=hs.n;omega) (fun _=>[(1,.p (.fp (eStem s) 0)),(64,.p (eNevers s.nn s.never))]) (fun _=>[]) (fun k=>∀ i,i<k→badN s i=false) rfl rfl (fun _=>rfl) ?_ (fun i hi=>absurd hi (Nat.not_lt_zero i)) (fun k hk hp=>?_) (fun hp=>?_)
 ·(refine Vw.drop (by repeat (first | exact wf_nil | refine wf_back rfl rfl rfl ?_ | refine wf_cons rfl ‹_› (ren_only _ ‹_›) ?_)))
 ·have bad:badN s k=true→ckStem s=42:=fun h=>by
   unfold ckStem
   rw [h1,show decide (40<Int.ofNat s.never.length)=false from h2,h3,okC,any_range_true hk h];rfl
  refine VSt.run tb_ok false [] 200 rfl (⟨hk,rfl⟩) ?_
  first | refine VSt.splitO 76 rfl (fun g1=>?_) (fun g1=>?_) | refine VSt.splitD 76 rfl (fun g1=>?_) (fun g1=>?_)
  ·refine VSt.run tb_ok false [] 200 rfl trivial ?_
   refine EndsP.mk rfl rfl rfl ?_
   show iv _=iv _
   rw [bad (by unfold badN;rw [g1];rfl)]
  refine VSt.run tb_ok false [] 200 rfl trivial ?_
  first | refine VSt.pc rfl rfl rfl rfl rfl rfl rfl rfl ((place_ok s (s.never.getD k default).src hs.c)) ?_ | refine VSt.pcD rfl rfl rfl rfl rfl rfl rfl rfl ((place_ok s (s.never.getD k default).src hs.c)) ?_
  refine VSt.run tb_ok false [] 200 rfl trivial ?_
  first | refine VSt.splitO 83 rfl (fun g2=>?_) (fun g2=>?_) | refine VSt.splitD 83 rfl (fun g2=>?_) (fun g2=>?_)
  ·refine VSt.run tb_ok false [] 200 rfl trivial ?_
   refine EndsP.mk rfl rfl rfl ?_
   show iv _=iv _
   rw [bad (by unfold badN;rw [g1,g2];rfl)]
  refine VSt.run tb_ok false [] 200 rfl trivial ?_
  first | refine VSt.pc rfl rfl rfl rfl rfl rfl rfl rfl ((place_ok s (s.never.getD k default).dst hs.c)) ?_ | refine VSt.pcD rfl rfl rfl rfl rfl rfl rfl rfl ((place_ok s (s.never.getD k default).dst hs.c)) ?_
  refine VSt.run tb_ok false [] 200 rfl trivial ?_
  refine VSt.cond rfl (fun g3=>?_) (fun g3=>?_)
  ·refine VSt.run tb_ok false [] 200 rfl trivial ?_
   refine EndsP.mk rfl rfl rfl ?_
   show iv _=iv _
   rw [bad (by unfold badN;rw [g1,g2,g3];rfl)]
  refine VSt.run tb_ok false [] 200 rfl trivial ?_
  first | refine VSt.splitO 92 rfl (fun g4=>?_) (fun g4=>?_) | refine VSt.splitD 92 rfl (fun g4=>?_) (fun g4=>?_)
  ·have g4':0<k:=by have:=of_decide_eq_true g4;simp only [Int.ofNat_eq_natCast] at this;omega
   have g4'':decide (0<k)=true:=decide_eq_true g4'
   have hR:inR (Int.ofNat k - 1):=by unfold inR;simp only [Int.ofNat_eq_natCast];have:=hs.n;omega
   have hI:Int.ofNat k - 1=Int.ofNat (k - 1):=by simp only [Int.ofNat_eq_natCast];omega
   have bN:=cmpN_ge (s.never.getD (k - 1) default) (s.never.getD k default)
   refine VSt.run tb_ok false [97] 200 rfl (hR) ?_
   refine VSt.putD 96 (nv (k - 1)) rfl (iv_nv hI) ?_
   refine VSt.run tb_ok false [] 200 rfl (⟨by omega,rfl⟩) ?_
   first | refine VSt.splitO 103 rfl (fun g5=>?_) (fun g5=>?_) | refine VSt.splitD 103 rfl (fun g5=>?_) (fun g5=>?_)
   ·refine VSt.run tb_ok false [] 200 rfl trivial ?_
    refine EndsP.mk rfl rfl rfl ?_
    show iv _=iv _
    rw [bad (by unfold badN;rw [g1,g2,g3,g4'',bN,g5];rfl)]
   refine VSt.run tb_ok false [108] 200 rfl (hR) ?_
   refine VSt.putD 107 (nv (k - 1)) rfl (iv_nv hI) ?_
   refine VSt.run tb_ok false [] 200 rfl (⟨by omega,rfl⟩) ?_
   first | refine VSt.splitO 114 rfl (fun g6=>?_) (fun g6=>?_) | refine VSt.splitD 114 rfl (fun g6=>?_) (fun g6=>?_)
   ·refine VSt.run tb_ok false [119] 200 rfl (hR) ?_
    refine VSt.putD 118 (nv (k - 1)) rfl (iv_nv hI) ?_
    refine VSt.run tb_ok false [] 200 rfl (⟨by omega,rfl⟩) ?_
    refine VSt.cond rfl (fun g7=>?_) (fun g7=>?_)
    ·refine VSt.run tb_ok false [] 200 rfl trivial ?_
     refine EndsP.mk rfl rfl rfl ?_
     show iv _=iv _
     rw [bad (by unfold badN;rw [g1,g2,g3,g4'',bN,g5,g6,g7];rfl)]
    refine VSt.run tb_ok false [] 200 rfl trivial ?_
    refine ⟨by (refine Vw.drop (by repeat (first | exact wf_nil | refine wf_back rfl rfl rfl ?_ | refine wf_cons rfl ‹_› (ren_only _ ‹_›) ?_))),fun i hi=>?_⟩
    by_cases e:i=k
    ·subst e;unfold badN;rw [g1,g2,g3,g4'',bN,g5,g6,g7];rfl
    ·exact hp i (by omega)
   refine VSt.run tb_ok false [] 200 rfl trivial ?_
   refine ⟨by (refine Vw.drop (by repeat (first | exact wf_nil | refine wf_back rfl rfl rfl ?_ | refine wf_cons rfl ‹_› (ren_only _ ‹_›) ?_))),fun i hi=>?_⟩
   by_cases e:i=k
   ·subst e;unfold badN;rw [g1,g2,g3,g4'',bN,g5,g6];rfl
   ·exact hp i (by omega)
  ·have g4':k=0:=by have:=of_decide_eq_false g4;simp only [Int.ofNat_eq_natCast] at this;omega
   refine VSt.run tb_ok false [] 200 rfl trivial ?_
   refine ⟨by (refine Vw.drop (by repeat (first | exact wf_nil | refine wf_back rfl rfl rfl ?_ | refine wf_cons rfl ‹_› (ren_only _ ‹_›) ?_))),fun i hi=>?_⟩
   by_cases e:i=k
   ·subst e;subst g4';unfold badN;rw [g1,g2,g3];rfl
   ·exact hp i (by omega)
 refine VSt.run tb_ok false [] 200 rfl trivial ?_
 refine EndsP.mk rfl rfl rfl ?_
 show iv _=iv _
 unfold ckStem
 rw [h1,show decide (40<Int.ofNat s.never.length)=false from h2,h3,okC,any_range_false hp];rfl
end Go.Proofs.YtncpeobcgmkkbaaGreat
/- Walks: what a copy costs from another one. -/
set_option maxRecDepth 100000
namespace Go.Proofs.YtncpeobcgmkkbaaGreat
variable {r:Tr (List Value×TypeId)}
structure Stem.Valid (s:Stem):Prop where
 c:s.copies.length≤7
 n:s.never.length≤40
 costs:(0≤s.costs.lose∧s.costs.lose≤100)∧(0≤s.costs.gain∧s.costs.gain≤100)∧(0≤s.costs.like∧s.costs.like≤100)∧(0≤s.costs.turn∧s.costs.turn≤100)
 cp:∀ k,k<s.copies.length→badC s.copies k=false
 nv:∀ k,k<s.never.length→badN s k=false
theorem wth_iff {n lo hi:Int}:wth n lo hi=true ↔ lo≤n∧n≤hi:=by
 unfold wth;simp
theorem any_range_of {n:Nat} {p:Nat→Bool} (h:(List.range n).any p=false):∀ k,k<n→p k=false:=fun k hk=>by
 rw [List.any_eq_false] at h
 have:=h k (List.mem_range.2 hk)
 simpa using this
theorem valid_of {s:Stem} (h:ckStem s=0):s.Valid:=by
 unfold ckStem at h
 split at h
 ·cases h
 ·rename_i h0
  simp only [Bool.or_eq_true,not_or,Bool.not_eq_true] at h0
  obtain ⟨h1,h2,h3,h4,h5⟩:=h0
  have hc:ckCosts s.costs=0:=by simpa using h3
  unfold ckCosts at hc
  split at hc
  ·rename_i h6
   simp only [Bool.and_eq_true,wth_iff] at h6
   refine ⟨?_,?_,⟨h6.1.1,h6.1.2,h6.2.1,h6.2.2⟩,any_range_of h4,any_range_of h5⟩
   ·have:=of_decide_eq_false h1;simp only [Int.ofNat_eq_natCast] at this;omega
   ·have:=of_decide_eq_false h2;simp only [Int.ofNat_eq_natCast] at this;omega
  ·cases hc
theorem Stem.Valid.copy {s:Stem} (h:s.Valid) {k:Nat} (hk:k<s.copies.length):ckCopy (s.copies.getD k default)=0:=by
 have:=h.cp k hk
 unfold badC at this
 simp only [Bool.or_eq_false_iff] at this
 simpa using this.1
theorem ckCopy_of {c:Copy} (h:ckCopy c=0):(1≤c.id∧c.id≤99)∧(1≤c.words.length∧c.words.length≤16)∧∀ w∈c.words,0≤w∧w≤99:=by
 unfold ckCopy at h
 split at h
 ·cases h
 ·rename_i h0
  simp only [Bool.or_eq_true,not_or,Bool.not_eq_true] at h0
  obtain ⟨h1,h2,h3⟩:=h0
  refine ⟨wth_iff.1 (by simpa using h1),?_,fun w hw=>?_⟩
  ·have:=wth_iff.1 (show wth (c.words.length:Int) 1 16=true by simpa using h2);omega
  ·rw [List.any_eq_false] at h3
   have:=h3 w hw
   unfold badW at this
   exact wth_iff.1 (by simpa using this)
theorem Stem.Valid.words {s:Stem} (h:s.Valid) {k:Nat} (hk:k<s.copies.length):(s.copies.getD k default).words.length=(s.copies.getD 0 default).words.length:=by
 have:=h.cp k hk
 unfold badC at this
 simp only [Bool.or_eq_false_iff] at this
 have:=this.2.2
 simp only [Bool.not_eq_false',beq_iff_eq] at this
 exact Int.ofNat.inj this
theorem Stem.Valid.asc {s:Stem} (h:s.Valid) {k:Nat} (hk:k<s.copies.length) (h0:0<k):(s.copies.getD (k - 1) default).id<(s.copies.getD k default).id:=by
 have:=h.cp k hk
 unfold badC at this
 simp only [Bool.or_eq_false_iff] at this
 have:=this.2.1
 simp only [h0,decide_true,Bool.true_and,decide_eq_false_iff_not] at this
 omega
def wd (s:Stem) (i k:Nat):Int:=(s.copies.getD i default).words.getD k 0
theorem Stem.Valid.wd {s:Stem} (h:s.Valid) {i k:Nat} (hi:i<s.copies.length) (hk:k<(s.copies.getD i default).words.length):0≤wd s i k∧wd s i k≤99:=by
 have:=(ckCopy_of (h.copy hi)).2.2
 unfold Go.Proofs.YtncpeobcgmkkbaaGreat.wd
 rw [getD_get hk]
 exact this _ (List.getElem_mem hk)
def slipI (c:Costs) (a b:Int):Int:=bif a==b then 0 else bif b==0 then c.lose else bif a==0 then c.gain else bif (a - b==1)||(b - a==1) then c.like else c.turn
theorem slip_ok (c:Costs) {a b:Int} (ha:0≤a∧a≤99) (hb:0≤b∧b≤99):VP (sE r) 98 [.agg ((eCosts c).map .p),iv a,iv b] (iv (slipI c a b)):=by
 refine VP.of (fn:=Tryz.f98) tb_ok rfl (by kernel_rfl) rfl rfl rfl ?_
 refine VSt.run tb_ok false [] 200 rfl trivial ?_
 refine VSt.cond rfl (fun h1=>?_) (fun h1=>?_)
 ·refine VSt.run tb_ok false [] 200 rfl trivial ?_
  refine EndsP.mk rfl rfl rfl ?_
  show iv _=iv _
  unfold slipI;rw [h1];rfl
 refine VSt.run tb_ok false [] 200 rfl trivial ?_
 refine VSt.cond rfl (fun h2=>?_) (fun h2=>?_)
 ·refine VSt.run tb_ok false [] 200 rfl trivial ?_
  refine EndsP.mk rfl rfl rfl ?_
  show iv _=iv _
  unfold slipI;rw [h1,h2];rfl
 refine VSt.run tb_ok false [] 200 rfl trivial ?_
 refine VSt.cond rfl (fun h3=>?_) (fun h3=>?_)
 ·refine VSt.run tb_ok false [] 200 rfl trivial ?_
  refine EndsP.mk rfl rfl rfl ?_
  show iv _=iv _
  unfold slipI;rw [h1,h2,h3];rfl
 refine VSt.run tb_ok false [] 200 rfl ((by show inR _;unfold inR;omega)) ?_
 first | refine VSt.splitO 26 rfl (fun h4=>?_) (fun h4=>?_) | refine VSt.splitD 26 rfl (fun h4=>?_) (fun h4=>?_)
 ·refine VSt.run tb_ok false [] 200 rfl trivial ?_
  refine EndsP.mk rfl rfl rfl ?_
  show iv _=iv _
  unfold slipI;rw [h1,h2,h3,h4];rfl
 refine VSt.run tb_ok false [] 200 rfl ((by show inR _;unfold inR;omega)) ?_
 refine VSt.cond rfl (fun h5=>?_) (fun h5=>?_)
 ·refine VSt.run tb_ok false [] 200 rfl trivial ?_
  refine EndsP.mk rfl rfl rfl ?_
  show iv _=iv _
  unfold slipI;rw [h1,h2,h3,h4,h5];rfl
 refine VSt.run tb_ok false [] 200 rfl trivial ?_
 refine EndsP.mk rfl rfl rfl ?_
 show iv _=iv _
 unfold slipI;rw [h1,h2,h3,h4,h5];rfl
theorem word_ok (c:Costs) {a b:Int} (ha:0≤a∧a≤99) (hb:0≤b∧b≤99):VP (sE r) 99 [.agg ((eCosts c).map .p),iv a,iv b] (iv (slipI c a b)):=by
 have e1:(a - b==1)=(a==b+1):=by rw [Bool.eq_iff_iff,beq_iff_eq,beq_iff_eq];omega
 have e2:(b - a==1)=(b==a+1):=by rw [Bool.eq_iff_iff,beq_iff_eq,beq_iff_eq];omega
 refine VP.of (fn:=Tryz.f99) tb_ok rfl (by kernel_rfl) rfl rfl rfl ?_
 refine VSt.run tb_ok false [] 200 rfl trivial ?_
 refine VSt.cond rfl (fun h1=>?_) (fun h1=>?_)
 ·refine VSt.run tb_ok false [] 200 rfl trivial ?_
  refine EndsP.mk rfl rfl rfl ?_
  show iv _=iv _
  unfold slipI;rw [h1];rfl
 refine VSt.run tb_ok false [] 200 rfl trivial ?_
 refine VSt.cond rfl (fun h2=>?_) (fun h2=>?_)
 ·refine VSt.run tb_ok false [] 200 rfl trivial ?_
  refine EndsP.mk rfl rfl rfl ?_
  show iv _=iv _
  unfold slipI;rw [h1,h2];rfl
 refine VSt.run tb_ok false [] 200 rfl trivial ?_
 refine VSt.cond rfl (fun h3=>?_) (fun h3=>?_)
 ·refine VSt.run tb_ok false [] 200 rfl trivial ?_
  refine EndsP.mk rfl rfl rfl ?_
  show iv _=iv _
  unfold slipI;rw [h1,h2,h3];rfl
 refine VSt.run tb_ok false [] 200 rfl ((by show inR _;unfold inR;omega)) ?_
 first | refine VSt.splitO 22 rfl (fun h4=>?_) (fun h4=>?_) | refine VSt.splitD 22 rfl (fun h4=>?_) (fun h4=>?_)
 ·refine VSt.run tb_ok false [] 200 rfl trivial ?_
  refine EndsP.mk rfl rfl rfl ?_
  show iv _=iv _
  unfold slipI;rw [h1,h2,h3,e1,h4];rfl
 refine VSt.run tb_ok false [] 200 rfl ((by show inR _;unfold inR;omega)) ?_
 refine VSt.cond rfl (fun h5=>?_) (fun h5=>?_)
 ·refine VSt.run tb_ok false [] 200 rfl trivial ?_
  refine EndsP.mk rfl rfl rfl ?_
  show iv _=iv _
  unfold slipI;rw [h1,h2,h3,e1,e2,h4,h5];rfl
 refine VSt.run tb_ok false [] 200 rfl trivial ?_
 refine EndsP.mk rfl rfl rfl ?_
 show iv _=iv _
 unfold slipI;rw [h1,h2,h3,e1,e2,h4,h5];rfl
theorem slipI_bd {c:Costs} (hc:(0≤c.lose∧c.lose≤100)∧(0≤c.gain∧c.gain≤100)∧(0≤c.like∧c.like≤100)∧(0≤c.turn∧c.turn≤100)) (a b:Int):0≤slipI c a b∧slipI c a b≤100:=by
 unfold slipI
 cases a==b <;> cases b==0 <;> cases a==0 <;> cases ((a - b==1)||(b - a==1)) <;> simp only [cond_true,cond_false] <;> omega
def sumTo (f:Nat→Int):Nat→Int
 | 0=>0
 | k+1=>sumTo f k+f k
theorem sumTo_bd {f:Nat→Int} {m:Int}:∀ {n:Nat},(∀ k,k<n→0≤f k∧f k≤m)→0≤sumTo f n∧sumTo f n≤m*n
 | 0,_=>by simp [sumTo]
 | n+1,h=>by
  have h1:=sumTo_bd (n:=n) fun k hk=>h k (by omega)
  have h2:=h n (by omega)
  simp only [sumTo,Int.natCast_add,Int.natCast_one,Int.mul_add,Int.mul_one]
  omega
def isNever (s:Stem) (a b:Int):Bool:=s.never.any fun n=>n.src==a&&n.dst==b
theorem never_ok (s:Stem) (a b:Int) (hn:s.never.length<9223372036854775808):VP (sE r) 63 [.agg ((eStem s).map .p),iv a,iv b] (bv (isNever s a b)):=by
 refine VP.of (fn:=Tryz.f63) tb_ok rfl (by kernel_rfl) rfl rfl rfl ?_
 refine VSt.run tb_ok false [] 200 rfl trivial ?_
 refine VSt.rangeF tb_ok s.never.length (by omega) (fun _=>[(10,.p (eNevers s.nn s.never)),(1,iv a),(2,iv b)]) (fun _=>[]) (fun k=>∀ i,i<k→((s.never.getD i default).src==a&&(s.never.getD i default).dst==b)=false) rfl rfl (fun _=>rfl) ?_ (fun i hi=>absurd hi (Nat.not_lt_zero i)) (fun k hk hp=>?_) (fun hp=>?_)
 ·(refine Vw.drop (by repeat (first | exact wf_nil | refine wf_back rfl rfl rfl ?_ | refine wf_cons rfl ‹_› (ren_only _ ‹_›) ?_)))
 ·have ok:((s.never.getD k default).src==a&&(s.never.getD k default).dst==b)=true→isNever s a b=true:=fun h=>by
   unfold isNever
   rw [getD_get hk] at h
   exact List.any_eq_true.2 ⟨_,List.getElem_mem hk,h⟩
  refine VSt.run tb_ok false [] 200 rfl (⟨hk,rfl⟩) ?_
  first | refine VSt.splitO 20 rfl (fun h1=>?_) (fun h1=>?_) | refine VSt.splitD 20 rfl (fun h1=>?_) (fun h1=>?_)
  ·refine VSt.run tb_ok false [] 200 rfl trivial ?_
   refine VSt.cond rfl (fun h2=>?_) (fun h2=>?_)
   ·refine VSt.run tb_ok false [] 200 rfl trivial ?_
    refine EndsP.mk rfl rfl rfl ?_
    show bv _=bv _
    rw [ok (by rw [h1,h2];rfl)]
   refine VSt.run tb_ok false [] 200 rfl trivial ?_
   refine ⟨by (refine Vw.drop (by repeat (first | exact wf_nil | refine wf_back rfl rfl rfl ?_ | refine wf_cons rfl ‹_› (ren_only _ ‹_›) ?_))),fun i hi=>?_⟩
   by_cases e:i=k
   ·subst e;rw [h1,h2];rfl
   ·exact hp i (by omega)
  ·refine VSt.run tb_ok false [] 200 rfl trivial ?_
   refine ⟨by (refine Vw.drop (by repeat (first | exact wf_nil | refine wf_back rfl rfl rfl ?_ | refine wf_cons rfl ‹_› (ren_only _ ‹_›) ?_))),fun i hi=>?_⟩
   by_cases e:i=k
   ·subst e;rw [h1];rfl
   ·exact hp i (by omega)
 refine VSt.run tb_ok false [] 200 rfl trivial ?_
 refine EndsP.mk rfl rfl rfl ?_
 show bv _=bv _
 have:isNever s a b=false:=by
  unfold isNever
  rw [List.any_eq_false]
  intro x hx
  obtain ⟨k,hk,rfl⟩:=List.mem_iff_getElem.1 hx
  have:=hp k hk
  rw [getD_get hk] at this
  rw [this];decide
 rw [this]
def costI (s:Stem) (i j:Nat):Int:=sumTo (fun k=>slipI s.costs (wd s i k) (wd s j k)) (s.copies.getD i default).words.length
theorem rcost_ok {s:Stem} (hs:s.Valid) {i j:Nat} (hi:i<s.copies.length) (hj:j<s.copies.length):VP (sE r) 60 [.agg ((eStem s).map .p),nv i,nv j] (iv (costI s i j)):=by
 have hl:=(ckCopy_of (hs.copy hi)).2.1
 have hw:(s.copies.getD j default).words.length=(s.copies.getD i default).words.length:=(hs.words hj).trans (hs.words hi).symm
 refine VP.of (fn:=Tryz.f60) tb_ok rfl (by kernel_rfl) rfl rfl rfl ?_
 refine VSt.run tb_ok false [] 200 rfl (⟨hi,rfl⟩) ?_
 refine VSt.viewC (Vw.freezeC 0 (eStem s) rfl rfl) ?_
 refine VSt.rangeF tb_ok (s.copies.getD i default).words.length (by omega) (fun k=>[(3,.p (.fp (eStem s) 0)),(15,.p (eInts (s.copies.getD i default).wn (s.copies.getD i default).words)),(2,nv j),(7,iv (sumTo (fun k=>slipI s.costs (wd s i k) (wd s j k)) k))]) (fun _=>[]) (fun _=>True) rfl rfl (fun _=>rfl) ?_ trivial (fun k hk hp=>?_) (fun hp=>?_)
 ·(refine Vw.drop (by repeat (first | exact wf_nil | refine wf_back rfl rfl rfl ?_ | refine wf_cons rfl ‹_› (ren_only _ ‹_›) ?_)))
 ·refine VSt.run tb_ok false [] 200 rfl (⟨hk,rfl,hj,rfl,(by rw [hw];exact hk),rfl⟩) ?_
  first | refine VSt.pc rfl rfl rfl rfl rfl rfl rfl rfl ((word_ok s.costs (hs.wd hi hk) (hs.wd hj (by rw [hw];exact hk)))) ?_ | refine VSt.pcD rfl rfl rfl rfl rfl rfl rfl rfl ((word_ok s.costs (hs.wd hi hk) (hs.wd hj (by rw [hw];exact hk)))) ?_
  have b1:=sumTo_bd (f:=fun k=>slipI s.costs (wd s i k) (wd s j k)) (m:=100) (n:=k) fun x _=>slipI_bd hs.costs _ _
  have b2:=slipI_bd hs.costs (wd s i k) (wd s j k)
  refine VSt.run tb_ok false [] 200 rfl ((by show inR (_+slipI s.costs (wd s i k) (wd s j k));unfold inR;omega)) ?_
  exact ⟨by (refine Vw.drop (by repeat (first | exact wf_nil | refine wf_back rfl rfl rfl ?_ | refine wf_cons rfl ‹_› (ren_only _ ‹_›) ?_))),trivial⟩
 refine VSt.run tb_ok false [] 200 rfl trivial ?_
 exact EndsP.mk rfl rfl rfl rfl
end Go.Proofs.YtncpeobcgmkkbaaGreat
/- Walks: the specification's cost. -/
set_option maxRecDepth 100000
namespace Go.Proofs.YtncpeobcgmkkbaaGreat
variable {r:Tr (List Value×TypeId)}
theorem idxN_ok {b:Bool} {l:List Never} (n:Never) (hn:l.length<9223372036854775808):VP (sE r) 118 [.p (eNevers b l),.agg ((eNever n).map .p)] (iv (match l.findIdx? (fun x=>x.src==n.src&&x.dst==n.dst) with | some k=>k | none=> -1)):=by
 refine VP.of (fn:=Tryz.f118) tb_ok rfl (by kernel_rfl) rfl rfl rfl ?_
 refine VSt.run tb_ok false [] 200 rfl trivial ?_
 refine VSt.viewC (Vw.freezeC 0 (eNever n) rfl rfl) ?_
 refine VSt.rangeF tb_ok l.length (by omega) (fun _=>[(0,.p (eNevers b l)),(3,.p (.fp (eNever n) 0))]) (fun _=>[]) (fun k=>∀ i,i<k→((l.getD i default).src==n.src&&(l.getD i default).dst==n.dst)=false) rfl rfl (fun _=>rfl) ?_ (fun i hi=>absurd hi (Nat.not_lt_zero i)) (fun k hk hp=>?_) (fun hp=>?_)
 ·(refine Vw.drop (by repeat (first | exact wf_nil | refine wf_back rfl rfl rfl ?_ | refine wf_cons rfl ‹_› (ren_only _ ‹_›) ?_)))
 ·refine VSt.run tb_ok false [] 200 rfl (⟨hk,rfl⟩) ?_
  have e0:∀ x:Never,(n.src==x.src&&(n.dst==x.dst&&true))=(x.src==n.src&&x.dst==n.dst):=fun x=>by
   rw [Bool.and_true,@BEq.comm _ _ _ n.src,@BEq.comm _ _ _ n.dst]
  refine VSt.cond rfl (fun hc=>?_) (fun hc=>?_)
  ·refine VSt.run tb_ok false [] 200 rfl trivial ?_
   refine EndsP.mk rfl rfl rfl ?_
   show iv _=iv _
   rw [e0] at hc
   have:l.findIdx? (fun x=>x.src==n.src&&x.dst==n.dst)=some k:=by
    rw [List.findIdx?_eq_some_iff_getElem]
    refine ⟨hk,by rw [getD_get hk] at hc;exact hc,fun j hj=>?_⟩
    have:=hp j hj
    rw [getD_get (by omega)] at this
    simp only [this];decide
   rw [this];rfl
  refine VSt.run tb_ok false [] 200 rfl trivial ?_
  refine ⟨by (refine Vw.drop (by repeat (first | exact wf_nil | refine wf_back rfl rfl rfl ?_ | refine wf_cons rfl ‹_› (ren_only _ ‹_›) ?_))),fun i hi=>?_⟩
  rw [e0] at hc
  by_cases e:i=k
  ·subst e;exact hc
  ·exact hp i (by omega)
 refine VSt.run tb_ok false [] 200 rfl trivial ?_
 refine EndsP.mk rfl rfl rfl ?_
 show iv _=iv _
 have:l.findIdx? (fun x=>x.src==n.src&&x.dst==n.dst)=none:=by
  rw [List.findIdx?_eq_none_iff]
  intro x hx
  obtain ⟨k,hk,rfl⟩:=List.mem_iff_getElem.1 hx
  have:=hp k hk
  rwa [getD_get hk] at this
 rw [this]
theorem contN_ok (s:Stem) (a b:Int) (hn:s.never.length<9223372036854775808):VP (sE r) 87 [.p (eNevers s.nn s.never),.agg ((eNever ⟨a,b⟩).map .p)] (bv (isNever s a b)):=by
 refine VP.of (fn:=Tryz.f87) tb_ok rfl (by kernel_rfl) rfl rfl rfl ?_
 refine VSt.run tb_ok false [] 200 rfl trivial ?_
 first | refine VSt.pc rfl rfl rfl rfl rfl rfl rfl rfl ((idxN_ok (b:=s.nn) (l:=s.never) ⟨a,b⟩ hn)) ?_ | refine VSt.pcD rfl rfl rfl rfl rfl rfl rfl rfl ((idxN_ok (b:=s.nn) (l:=s.never) ⟨a,b⟩ hn)) ?_
 refine VSt.run tb_ok false [] 200 rfl trivial ?_
 refine EndsP.mk rfl rfl rfl ?_
 show bv _=bv _
 congr 2
 unfold isNever
 cases h:s.never.findIdx? (fun x=>x.src==a&&x.dst==b) with
 | none =>
  rw [List.findIdx?_eq_none_iff] at h
  symm
  show s.never.any _=false
  rw [List.any_eq_false]
  exact fun x hx=>by simp only [h x hx];decide
 | some k =>
  have:s.never.any (fun x=>x.src==a&&x.dst==b)=true:=by
   rw [List.findIdx?_eq_some_iff_getElem] at h
   obtain ⟨hk,h,_⟩:=h
   exact List.any_eq_true.2 ⟨_,List.getElem_mem hk,h⟩
  rw [this];exact decide_eq_true (Int.natCast_nonneg k)
theorem idxC_lt {l:List Copy} {p:Copy→Bool}:idxC l p = -1∨∃ k,k<l.length∧idxC l p=Int.ofNat k∧p (l.getD k default)=true:=by
 unfold idxC
 cases h:l.findIdx? p with
 | none=>exact .inl rfl
 | some k =>
  rw [List.findIdx?_eq_some_iff_getElem] at h
  obtain ⟨hk,h,_⟩:=h
  exact .inr ⟨k,hk,rfl,by rw [getD_get hk];exact h⟩
theorem place_nat {s:Stem} {a:Int} (h:decide (place s a<0)=false):∃ i,i<s.copies.length∧place s a=Int.ofNat i:=by
 have h:=of_decide_eq_false h
 rcases idxC_lt (l:=s.copies) (p:=fun c=>c.id==a) with ha | ⟨i,hi,hie,_⟩
 ·unfold place at h;omega
 ·exact ⟨i,hi,hie⟩
end Go.Proofs.YtncpeobcgmkkbaaGreat
/- Walks: the program's cost of a copy (a range over a function). -/
set_option maxRecDepth 100000
namespace Go.Proofs.YtncpeobcgmkkbaaGreat
variable {r:Tr (List Value×TypeId)}
theorem sum_ok {b:Bool} {l:List Int} (hn:l.length<1000000) (h:∀ k,k<l.length→0≤l.getD k 0∧l.getD k 0≤1000000):VP (sE r) 58 [.p (eInts b l)] (iv (sumTo (fun k=>l.getD k 0) l.length)):=by
 refine VP.of (fn:=Tryz.f58) tb_ok rfl (by kernel_rfl) rfl rfl rfl ?_
 refine VSt.run tb_ok false [] 200 rfl trivial ?_
 refine VSt.rangeF tb_ok l.length (by omega) (fun k=>[(6,.p (eInts b l)),(3,iv (sumTo (fun k=>l.getD k 0) k))]) (fun _=>[]) (fun _=>True) rfl rfl (fun _=>rfl) ?_ trivial (fun k hk hp=>?_) (fun hp=>?_)
 ·(refine Vw.drop (by repeat (first | exact wf_nil | refine wf_back rfl rfl rfl ?_ | refine wf_cons rfl ‹_› (ren_only _ ‹_›) ?_)))
 ·have b1:=sumTo_bd (f:=fun k=>l.getD k 0) (m:=1000000) (n:=k) fun x hx=>h x (by omega)
  have b2:=h k hk
  refine VSt.run tb_ok false [] 200 rfl (⟨hk,rfl,(by show inR (_+_);unfold inR;omega)⟩) ?_
  exact ⟨by (refine Vw.drop (by repeat (first | exact wf_nil | refine wf_back rfl rfl rfl ?_ | refine wf_cons rfl ‹_› (ren_only _ ‹_›) ?_))),trivial⟩
 refine VSt.run tb_ok false [] 200 rfl trivial ?_
 exact EndsP.mk rfl rfl rfl rfl
theorem slips_ok (a b:Copy):VP (sE r) 62 [.agg ((eCopy a).map .p),.agg ((eCopy b).map .p)] (.fn 100 [] [.p (.fp (eCopy b) 0),.p (.fp (eCopy a) 0)]):=by
 refine VP.of (fn:=Tryz.f62) tb_ok rfl (by kernel_rfl) rfl rfl rfl ?_
 refine VSt.run tb_ok false [5] 200 rfl trivial ?_
 refine VSt.viewO (Vw.freezeC 0 (eCopy a) rfl rfl) ?_
 refine VSt.viewO (Vw.freezeC 1 (eCopy b) rfl rfl) ?_
 refine VSt.run tb_ok false [] 200 rfl trivial ?_
 exact EndsP.mk rfl rfl rfl rfl
theorem slips1_ok (a b:Copy) (hn:b.words.length<1000000) (hab:b.words.length≤a.words.length) {N:Nat} {G:VK} {G1:Nat→VK} {ps:List Tmp} {asg body:Code} {L0:VS} (I:Nat→VS→Prop) (hI:I 0 L0) (hk:∀ k,bindK N ps [nv k] G=some (G1 k))
  (hskip:∀ k L,k<b.words.length→(a.words.getD k 0==b.words.getD k 0)=true→I k L→I (k+1) L)
  (hround:∀ k L rd1,k<b.words.length→(a.words.getD k 0==b.words.getD k 0)=false→I k L→VSt.H (sE r) N [0,1] rd1 (fun e F1 L1=>e = .normal∧∃ G2,bk L1 0=some (.loop .ready none G2 N ps asg body)∧VSt.H (sE r) N [0,1] rd1 (fun e F2 L2=>e = .normal∧∃ F0 L',Vw (sE r) [0,1] F2 L2 F0 ((0,.loop .busy none G N ps asg body)::L')∧I (k+1) L') (.code body [] F1 (up L1 0 (.loop .busy none G2 N ps asg body)))) (.code asg [] (G1 k) ((0,.loop .ready none G N ps asg body)::L))) :
  VC (sE r) [0,1] 100 [.yld 0,.p (.fp (eCopy b) 0),.p (.fp (eCopy a) 0)] ((0,.loop .ready none G N ps asg body)::L0) (fun _ L'=>∃ L,I b.words.length L∧L'=(0,.loop .ready none G N ps asg body)::L):=by
 refine VC.of0 (fn:=Tryz.f100) tb_ok rfl (by kernel_rfl) rfl rfl ?_
 refine VSt.run tb_ok false [] 200 rfl trivial ?_
 refine VSt.range tb_ok b.words.length (by omega) (fun k l L=>l=[(7,.p (eInts b.wn b.words)),(2,.p (.fp (eCopy a) 0)),(0,.yld 0)]∧∃ L1,L=(0,.loop .ready none G N ps asg body)::L1∧I k L1) rfl rfl
  ⟨[(7,.p (eInts b.wn b.words)),(2,.p (.fp (eCopy a) 0)),(0,.yld 0)],(0,.loop .ready none G N ps asg body)::L0,(by (refine Vw.sub' (subK (by repeat (first | exact sk_nil | refine sk_cons rfl ?_))))),rfl,L0,rfl,hI⟩ ?_ ?_
 ·rintro k l L hk1 ⟨rfl,L1,rfl,hL⟩
  refine VSt.run tb_ok false [] 200 rfl (⟨hk1,rfl,(show k<a.words.length by omega),rfl⟩) ?_
  first | refine VSt.splitO 21 rfl (fun h=>?_) (fun h=>?_) | refine VSt.splitD 21 rfl (fun h=>?_) (fun h=>?_)
  ·refine VSt.run tb_ok false [] 200 rfl trivial ?_
   refine VSt.yield [0,1] rfl rfl rfl rfl rfl rfl rfl (hk k) rfl rfl rfl (fun rd1=>VW.mono (hround k L1 rd1 hk1 (by simpa using h) hL) ?_)
   refine fun e F1 L1' h=>⟨h.1,h.2.elim fun G2 h2=>⟨G2,h2.1,VW.mono h2.2 ?_⟩⟩
   refine fun e F2 L2 h=>h.2.elim fun F0 h3=>h3.elim fun L' h4=>⟨F0,_,none,G,h4.1,rfl,?_⟩
   have he:=h.1
   subst he
   refine VSt.run tb_ok false [] 200 rfl trivial ?_
   exact ⟨_,_,(by (refine Vw.sub' (subK (by repeat (first | exact sk_nil | refine sk_cons rfl ?_))))),⟨rfl,L',rfl,h4.2⟩,rfl⟩
  ·refine VSt.run tb_ok false [] 200 rfl trivial ?_
   exact ⟨_,_,(by (refine Vw.sub' (subK (by repeat (first | exact sk_nil | refine sk_cons rfl ?_))))),⟨rfl,L1,rfl,hskip k L1 hk1 (by simpa using h) hL⟩,rfl⟩
 ·rintro l L ⟨rfl,L1,rfl,hL⟩
  refine VSt.run tb_ok false [] 200 rfl trivial ?_
  exact ⟨rfl,_,rfl,L1,hL,rfl⟩
def accL (s:Stem) (i j:Nat):Nat→List Int
 | 0=>[]
 | k+1=>bif wd s i k==wd s j k then accL s i j k else accL s i j k++[slipI s.costs (wd s i k) (wd s j k)]
def memA:List Int→VS
 | []=>[(1,.cells [.p (.lst 0 true 0 fun _=>[])] 28)]
 | x::l=>[(1,.cells [.sl 2 1 0 (l.length+1) (l.length+1) 0] 28),(2,.arr (l.length+1) 1 (fun q=>[.int .i64 ((x::l).getD q 0)]) 3)]
theorem sumTo_app (l:List Int) (x:Int):sumTo (fun k=>(l++[x]).getD k 0) (l++[x]).length=sumTo (fun k=>l.getD k 0) l.length+x:=by
 have h:∀ n,n≤l.length→sumTo (fun k=>(l++[x]).getD k 0) n=sumTo (fun k=>l.getD k 0) n:=by
  intro n
  induction n with
  | zero=>intro _;rfl
  | succ n ih =>
   intro hn
   show sumTo _ n+_=sumTo _ n+_
   rw [ih (by omega)]
   simp only [List.getD_eq_getElem?_getD]
   rw [List.getElem?_append_left (by omega)]
 rw [List.length_append]
 show sumTo _ l.length+(l++[x]).getD l.length 0=_
 rw [h _ (Nat.le_refl _)]
 simp
theorem accL_sum (s:Stem) (i j:Nat):∀ k,sumTo (fun q=>(accL s i j k).getD q 0) (accL s i j k).length=sumTo (fun k=>slipI s.costs (wd s i k) (wd s j k)) k
 | 0=>rfl
 | k+1=>by
  show sumTo (fun q=>(bif wd s i k==wd s j k then _ else _:List Int).getD q 0) (bif wd s i k==wd s j k then _ else _:List Int).length=sumTo _ k+_
  cases h:wd s i k==wd s j k with
  | true =>
   simp only [cond_true]
   rw [accL_sum s i j k]
   have:slipI s.costs (wd s i k) (wd s j k)=0:=by unfold slipI;rw [h];rfl
   rw [this];simp
  | false =>
   simp only [cond_false]
   rw [sumTo_app,accL_sum s i j k]
theorem accL_bd {s:Stem} (hs:s.Valid) (i j:Nat):∀ k,(accL s i j k).length≤k∧∀ q,q<(accL s i j k).length→0≤(accL s i j k).getD q 0∧(accL s i j k).getD q 0≤1000000
 | 0=>⟨Nat.le_refl _,fun q hq=>absurd hq (Nat.not_lt_zero q)⟩
 | k+1=>by
  have ih:=accL_bd hs i j k
  unfold accL
  cases h:wd s i k==wd s j k with
  | true=>exact ⟨Nat.le_succ_of_le ih.1,ih.2⟩
  | false =>
   simp only [cond_false]
   refine ⟨by rw [List.length_append];exact Nat.succ_le_succ ih.1,fun q hq=>?_⟩
   rw [List.length_append] at hq
   simp only [List.getD_eq_getElem?_getD]
   by_cases e:q<(accL s i j k).length
   ·rw [List.getElem?_append_left e]
    have:=ih.2 q e
    rwa [List.getD_eq_getElem?_getD] at this
   ·have:q=(accL s i j k).length:=by simp only [List.length_singleton] at hq;omega
    subst this
    have:=slipI_bd hs.costs (wd s i k) (wd s j k)
    simp
    omega
theorem app_cell (l:List Int) (y:Int) (q:Nat) (hq:q<l.length+1):(bif Nat.blt q l.length then [PV.int .i64 (l.getD (0+q) 0)] else ((([y]:List Int).map (PV.int .i64)).drop ((q - l.length)*1)).take 1)=[PV.int .i64 ((l++[y]).getD q 0)]:=by
 by_cases e:q<l.length
 ·rw [show Nat.blt q l.length=true from by simpa using e]
  simp only [cond_true,Nat.zero_add,List.getD_eq_getElem?_getD]
  rw [List.getElem?_append_left e]
 ·have:q=l.length:=by omega
  subst this
  rw [show Nat.blt l.length l.length=false from (by rw [←Bool.not_eq_true];intro h;have:=Nat.le_of_ble_eq_true h;omega)]
  simp
theorem cost_ok {s:Stem} (hs:s.Valid) {i j:Nat} (hi:i<s.copies.length) (hj:j<s.copies.length):VP (sE r) 59 [.agg ((eStem s).map .p),nv i,nv j] (iv (costI s i j)):=by
 have hl:=(ckCopy_of (hs.copy hi)).2.1
 have hw:(s.copies.getD j default).words.length=(s.copies.getD i default).words.length:=(hs.words hj).trans (hs.words hi).symm
 refine VP.of (fn:=Tryz.f59) tb_ok rfl (by kernel_rfl) rfl rfl rfl ?_
 refine VSt.run tb_ok false [] 200 rfl (⟨hi,rfl,hj,rfl⟩) ?_
 refine VSt.viewO (Wk.vw (ps:=[(3,3),(2,2),(1,1),(0,0)]) (F0:=[(21,.agg ((eCopy (s.copies.getD i default)).map .p)),(22,.agg ((eCopy (s.copies.getD j default)).map .p)),(3,.ref 0 0),(7,.ref 1 0),(8,.ref 2 0),(9,.ref 3 0)])
  (L0:=[(3,.cells [.p (.lst 0 true 0 fun _=>[])] 28),(2,.cells ((eCopy (s.copies.getD j default)).map .p) 44),(1,.cells ((eCopy (s.copies.getD i default)).map .p) 44),(0,.cells ((eStem s).map .p) 27)])
  ⟨rfl,rfl,(by repeat (first | exact wf_nil | refine wf_back rfl rfl rfl ?_)),_,rfl,LImp.refl _⟩) ?_
 refine VSt.viewO (Vw.freezeC 0 (eStem s) rfl rfl) ?_
 refine VSt.viewO (Vw.freezeC 1 (eCopy (s.copies.getD i default)) rfl rfl) ?_
 refine VSt.viewO (Vw.freezeC 2 (eCopy (s.copies.getD j default)) rfl rfl) ?_
 first | refine VSt.pc rfl rfl rfl rfl rfl rfl rfl rfl ((slips_ok (s.copies.getD i default) (s.copies.getD j default))) ?_ | refine VSt.pcD rfl rfl rfl rfl rfl rfl rfl rfl ((slips_ok (s.copies.getD i default) (s.copies.getD j default))) ?_
 refine VSt.run tb_ok false [] 200 rfl trivial ?_
 refine VSt.viewC (Wk.vw (ps:=[(0,3)]) (F0:=[(23,.fn 100 [] [.p (.fp (eCopy (s.copies.getD j default)) 0),.p (.fp (eCopy (s.copies.getD i default)) 0)]),(3,.p (.fp (eStem s) 0)),(7,.p (.fp (eCopy (s.copies.getD i default)) 0)),(8,.p (.fp (eCopy (s.copies.getD j default)) 0)),(9,.ref 0 0)]) (L0:=[(0,.cells [.p (.lst 0 true 0 fun _=>[])] 28)])
  ⟨rfl,rfl,(by repeat (first | exact wf_nil | refine wf_back rfl rfl rfl ?_)),_,rfl,LImp.refl _⟩) ?_
 refine VSt.rangeFunc [(0,1),(1,0)] (stc:=[0,1]) rfl rfl rfl rfl rfl rfl (slips1_ok (s.copies.getD i default) (s.copies.getD j default) (by omega) (by omega) (G1:=fun k=>(24,nv k)::[(23,.fn 100 [] [.p (.fp (eCopy (s.copies.getD j default)) 0),.p (.fp (eCopy (s.copies.getD i default)) 0)]),(3,.p (.fp (eStem s) 0)),(7,.p (.fp (eCopy (s.copies.getD i default)) 0)),(8,.p (.fp (eCopy (s.copies.getD j default)) 0)),(9,.ref 1 0)]) (fun k L=>L=memA (accL s i j k)) rfl (fun k=>rfl) ?_ ?_) ?_
 ·intro k L hk he hI
  subst hI
  show _=memA (bif wd s i k==wd s j k then _ else _)
  rw [show (wd s i k==wd s j k)=true from he];rfl
 ·intro k L rd1 hk he hI
  subst hI
  have hki:k<(s.copies.getD i default).words.length:=by omega
  have b1:=hs.wd hi hki
  have b2:=hs.wd hj hk
  cases hacc:accL s i j k with
  | nil =>
   refine VSt.run tb_ok false [] 200 rfl trivial ?_
   refine ⟨rfl,_,rfl,?_⟩
   refine VSt.run tb_ok false [] 200 rfl (⟨hki,rfl,hk,rfl⟩) ?_
   first | refine VSt.pc rfl rfl rfl rfl rfl rfl rfl rfl ((slip_ok s.costs b1 b2)) ?_ | refine VSt.pcD rfl rfl rfl rfl rfl rfl rfl rfl ((slip_ok s.costs b1 b2)) ?_
   have one:∀ q,q<1→(((([slipI s.costs (wd s i k) (wd s j k)]:List Int).map (PV.int .i64)).drop (q*1)).take 1).length=1:=fun q hq=>by rw [bs_ints [slipI s.costs (wd s i k) (wd s j k)] q hq];rfl
   refine VSt.run tb_ok false [] 200 rfl (⟨by decide,by decide,one⟩) ?_
   refine ⟨rfl,[],_,Wk.vw (ps:=[(0,0),(1,1),(2,2)]) (L0:=(0,_)::memA [slipI s.costs (wd s i k) (wd s j k)]) ⟨rfl,rfl,wf_nil,_,rfl,?_⟩,?_⟩
   ·exact ⟨rfl,BImp.refl _,rfl,BImp.refl _,rfl,BImp.arr fun q hq=>bs_ints [slipI s.costs (wd s i k) (wd s j k)] q hq,trivial⟩
   ·show _=memA (bif wd s i k==wd s j k then _ else _)
    rw [show (wd s i k==wd s j k)=false from he,hacc];rfl
  | cons x l =>
   have bl:=(accL_bd hs i j k).1
   rw [hacc] at bl
   have bl:l.length+1≤k:=bl
   refine VSt.run tb_ok false [] 200 rfl trivial ?_
   refine ⟨rfl,_,rfl,?_⟩
   refine VSt.run tb_ok false [] 200 rfl (⟨hki,rfl,hk,rfl⟩) ?_
   first | refine VSt.pc rfl rfl rfl rfl rfl rfl rfl rfl ((slip_ok s.costs b1 b2)) ?_ | refine VSt.pcD rfl rfl rfl rfl rfl rfl rfl rfl ((slip_ok s.costs b1 b2)) ?_
   have one:∀ q,q<1→(((([slipI s.costs (wd s i k) (wd s j k)]:List Int).map (PV.int .i64)).drop (q*1)).take 1).length=1:=fun q hq=>by rw [bs_ints [slipI s.costs (wd s i k) (wd s j k)] q hq];rfl
   refine VSt.run tb_ok false [] 200 rfl (⟨by decide,by omega,one,rfl,rfl,Nat.lt_succ_self _,Nat.le_of_eq (Nat.zero_add _)⟩) ?_
   refine ⟨rfl,[],_,Wk.vw (ps:=[(0,0),(1,1),(2,3)]) (L0:=[(0,_),(1,.cells [.sl 2 1 0 (l.length+1+1) (l.length+1+1) 0] 28),(2,.arr (l.length+1+1) 1 (fun q=>[.int .i64 ((x::(l++[slipI s.costs (wd s i k) (wd s j k)])).getD q 0)]) 3)]) ⟨rfl,rfl,wf_nil,_,rfl,?_⟩,?_⟩
   ·exact ⟨rfl,BImp.refl _,rfl,BImp.refl _,rfl,BImp.arr fun q hq=>app_cell (x::l) (slipI s.costs (wd s i k) (wd s j k)) q hq,trivial⟩
   ·show _=memA (bif wd s i k==wd s j k then _ else _)
    rw [show (wd s i k==wd s j k)=false from he,hacc]
    show _=memA (x::(l++[slipI s.costs (wd s i k) (wd s j k)]))
    simp only [memA,List.length_append,List.length_singleton]
 ·have hcost:costI s i j=sumTo (fun q=>(accL s i j (s.copies.getD j default).words.length).getD q 0) (accL s i j (s.copies.getD j default).words.length).length:=by
   rw [accL_sum,hw];rfl
  have hbd:=accL_bd hs i j (s.copies.getD j default).words.length
  rintro a L' ⟨L,hL,rfl⟩
  cases hacc:accL s i j (s.copies.getD j default).words.length with
  | nil =>
   rw [hacc] at hL hcost
   subst hL
   refine ⟨_,_,_,_,_,_,_,_,rfl,rfl,rfl,?_⟩
   refine VSt.run tb_ok false [] 200 rfl trivial ?_
   first | refine VSt.pc rfl rfl rfl rfl rfl rfl rfl rfl ((VP.imp (sum_ok (b:=true) (l:=[]) (by decide) (fun k hk=>absurd hk (Nat.not_lt_zero k))) ⟨AImp.nil,trivial⟩)) ?_ | refine VSt.pcD rfl rfl rfl rfl rfl rfl rfl rfl ((VP.imp (sum_ok (b:=true) (l:=[]) (by decide) (fun k hk=>absurd hk (Nat.not_lt_zero k))) ⟨AImp.nil,trivial⟩)) ?_
   refine VSt.run tb_ok false [] 200 rfl trivial ?_
   refine EndsP.mk rfl rfl rfl ?_
   rw [hcost];rfl
  | cons x l =>
   rw [hacc] at hL hcost hbd
   subst hL
   refine ⟨_,_,_,_,_,_,_,_,rfl,rfl,rfl,?_⟩
   refine VSt.run tb_ok false [] 200 rfl trivial ?_
   refine VSt.viewO (Vw.freeze 4 rfl rfl ⟨Nat.le_of_eq (Nat.zero_add _),Nat.le_refl _,rfl,Nat.le_of_eq (Nat.zero_add _),Nat.le_refl _,rfl⟩) ?_
   first | refine VSt.pc rfl rfl rfl rfl rfl rfl rfl rfl ((VP.imp (sum_ok (b:=false) (l:=x::l) (by have:=hbd.1;omega) hbd.2) ⟨AImp.lst fun k hk=>by rw [Nat.zero_add],trivial⟩)) ?_ | refine VSt.pcD rfl rfl rfl rfl rfl rfl rfl rfl ((VP.imp (sum_ok (b:=false) (l:=x::l) (by have:=hbd.1;omega) hbd.2) ⟨AImp.lst fun k hk=>by rw [Nat.zero_add],trivial⟩)) ?_
   refine VSt.run tb_ok false [] 200 rfl trivial ?_
   refine EndsP.mk rfl rfl rfl ?_
   rw [hcost];rfl
end Go.Proofs.YtncpeobcgmkkbaaGreat
/- Walks: the program's Cost. -/
set_option maxRecDepth 100000
namespace Go.Proofs.YtncpeobcgmkkbaaGreat
variable {r:Tr (List Value×TypeId)}
def twoM (s:Stem) (a b:Int):Int×Int×Int:=if ckStem s=0 then
  (if (decide (place s a<0)||(decide (place s b<0)||(place s a==place s b)))=true then (0,0,1) else (place s a,place s b,0))
 else (0,0,ckStem s)
theorem two_ok (s:Stem) (hs:s.Ok) (a b:Int):VP (sE r) 65 [.agg ((eStem s).map .p),iv a,iv b] (.tup [iv (twoM s a b).1,iv (twoM s a b).2.1,iv (twoM s a b).2.2]):=by
 refine VP.of (fn:=Tryz.f65) tb_ok rfl (by kernel_rfl) rfl rfl rfl ?_
 refine VSt.run tb_ok false [] 200 rfl trivial ?_
 first | refine VSt.pc rfl rfl rfl rfl rfl rfl rfl rfl ((check_ok s hs)) ?_ | refine VSt.pcD rfl rfl rfl rfl rfl rfl rfl rfl ((check_ok s hs)) ?_
 refine VSt.run tb_ok false [] 200 rfl trivial ?_
 refine VSt.cond rfl (fun h1=>?_) (fun h1=>?_)
 ·refine VSt.run tb_ok false [] 200 rfl trivial ?_
  refine EndsP.mk rfl rfl rfl ?_
  have:¬ ckStem s=0:=by simpa using h1
  rw [show twoM s a b=(0,0,ckStem s) by unfold twoM;rw [if_neg this]];rfl
 have h1:ckStem s=0:=by simpa using h1
 refine VSt.run tb_ok false [] 200 rfl trivial ?_
 first | refine VSt.pc rfl rfl rfl rfl rfl rfl rfl rfl ((index_ok s a hs.c)) ?_ | refine VSt.pcD rfl rfl rfl rfl rfl rfl rfl rfl ((index_ok s a hs.c)) ?_
 refine VSt.run tb_ok false [] 200 rfl trivial ?_
 first | refine VSt.pc rfl rfl rfl rfl rfl rfl rfl rfl ((index_ok s b hs.c)) ?_ | refine VSt.pcD rfl rfl rfl rfl rfl rfl rfl rfl ((index_ok s b hs.c)) ?_
 refine VSt.run tb_ok false [] 200 rfl trivial ?_
 first | refine VSt.splitO 25 rfl (fun h2=>?_) (fun h2=>?_) | refine VSt.splitD 25 rfl (fun h2=>?_) (fun h2=>?_)
 ·refine VSt.run tb_ok false [] 200 rfl trivial ?_
  refine EndsP.mk rfl rfl rfl ?_
  rw [show twoM s a b=(0,0,1) by unfold twoM;rw [if_pos h1,if_pos (by rw [show decide (place s a<0)=true from h2];rfl)]];rfl
 refine VSt.run tb_ok false [] 200 rfl trivial ?_
 first | refine VSt.splitO 29 rfl (fun h3=>?_) (fun h3=>?_) | refine VSt.splitD 29 rfl (fun h3=>?_) (fun h3=>?_)
 ·refine VSt.run tb_ok false [] 200 rfl trivial ?_
  refine EndsP.mk rfl rfl rfl ?_
  rw [show twoM s a b=(0,0,1) by unfold twoM;rw [if_pos h1,if_pos (by rw [show decide (place s a<0)=false from h2,show decide (place s b<0)=true from h3];rfl)]];rfl
 refine VSt.run tb_ok false [] 200 rfl trivial ?_
 refine VSt.cond rfl (fun h4=>?_) (fun h4=>?_)
 ·refine VSt.run tb_ok false [] 200 rfl trivial ?_
  refine EndsP.mk rfl rfl rfl ?_
  rw [show twoM s a b=(0,0,1) by unfold twoM;rw [if_pos h1,if_pos (by rw [show decide (place s a<0)=false from h2,show decide (place s b<0)=false from h3,show (place s a==place s b)=true from h4];rfl)]];rfl
 refine VSt.run tb_ok false [] 200 rfl trivial ?_
 refine EndsP.mk rfl rfl rfl ?_
 rw [show twoM s a b=(place s a,place s b,0) by unfold twoM;rw [if_pos h1,if_neg (by rw [show decide (place s a<0)=false from h2,show decide (place s b<0)=false from h3,show (place s a==place s b)=false from h4];decide)]];rfl
end Go.Proofs.YtncpeobcgmkkbaaGreat
/- Walks: equal lists and equal stems are told to be so. -/
set_option maxRecDepth 100000
namespace Go.Proofs.YtncpeobcgmkkbaaGreat
variable {r:Tr (List Value×TypeId)}
theorem same_ok {b1 b2:Bool} {l:List Int} (hn:l.length<9223372036854775808):VP (sE r) 16 [.p (eInts b1 l),.p (eInts b2 l)] (bv true):=by
 refine VP.of (fn:=Tryz.f16) tb_ok rfl (by kernel_rfl) rfl rfl rfl ?_
 refine VSt.run tb_ok false [] 200 rfl trivial ?_
 refine VSt.cond rfl (fun h=>absurd (show (!(Int.ofNat l.length==Int.ofNat l.length))=true from h) (by rw [beq_self_eq_true];decide)) (fun _=>?_)
 refine VSt.run tb_ok false [] 200 rfl trivial ?_
 refine VSt.rangeF tb_ok l.length (by omega) (fun _=>[(0,.p (eInts b1 l)),(1,.p (eInts b2 l))]) (fun _=>[]) (fun _=>True) rfl rfl (fun _=>rfl) ?_ trivial (fun k hk hp=>?_) (fun hp=>?_)
 ·(refine Vw.drop (by repeat (first | exact wf_nil | refine wf_back rfl rfl rfl ?_ | refine wf_cons rfl ‹_› (ren_only _ ‹_›) ?_)))
 ·refine VSt.run tb_ok false [] 200 rfl (⟨hk,rfl,hk,rfl⟩) ?_
  refine VSt.cond rfl (fun h=>absurd (show (!(l.getD k 0==l.getD k 0))=true from h) (by rw [beq_self_eq_true];decide)) (fun _=>?_)
  refine VSt.run tb_ok false [] 200 rfl trivial ?_
  exact ⟨by (refine Vw.drop (by repeat (first | exact wf_nil | refine wf_back rfl rfl rfl ?_ | refine wf_cons rfl ‹_› (ren_only _ ‹_›) ?_))),trivial⟩
 refine VSt.run tb_ok false [] 200 rfl trivial ?_
 exact EndsP.mk rfl rfl rfl rfl
structure Stem.Eqv (a b:Stem):Prop where
 c:a.copies.length=b.copies.length
 n:a.never.length=b.never.length
 costs:a.costs=b.costs
 cp:∀ k,k<a.copies.length→(a.copies.getD k default).id=(b.copies.getD k default).id∧(a.copies.getD k default).words=(b.copies.getD k default).words
 nv:∀ k,k<a.never.length→a.never.getD k default=b.never.getD k default
end Go.Proofs.YtncpeobcgmkkbaaGreat
/- Walks: the specification's stem without a copy. -/
set_option maxRecDepth 100000
namespace Go.Proofs.YtncpeobcgmkkbaaGreat
variable {r:Tr (List Value×TypeId)}
def mkStem (c:Costs) (l:List Copy) (m:List Never):Stem:=⟨l.isEmpty,l,c,m.isEmpty,m⟩
def lessC (s:Stem) (id:Int):Nat→List Copy
 | 0=>[]
 | k+1=>bif !((s.copies.getD k default).id==id) then lessC s id k++[s.copies.getD k default] else lessC s id k
def lessN (s:Stem) (id:Int):Nat→List Never
 | 0=>[]
 | k+1=>bif !((s.never.getD k default).src==id) && !((s.never.getD k default).dst==id) then lessN s id k++[s.never.getD k default] else lessN s id k
def lessM (s:Stem) (id:Int):Stem:=mkStem s.costs (lessC s id s.copies.length) (lessN s id s.never.length)
theorem AImp.agg {cs ds:List AV} (h:AImps cs ds):AImp (.agg cs) (.agg ds):=fun E S Z j v hv=>by
 cases hv with
 | agg hs hv=>exact .agg hs (h.vrs hv)
def zeroS:VB:=.cells [.p (.lst 0 true 0 fun _=>[]),iv 0,iv 0,iv 0,iv 0,.p (.lst 0 true 0 fun _=>[])] 27
def memC (c:Costs):List Copy→VS
 | []=>[(1,zeroS),(2,.cells [.p (.lst 0 true 0 fun _=>[]),iv c.lose,iv c.gain,iv c.like,iv c.turn,.p (.lst 0 true 0 fun _=>[])] 27)]
 | x::l=>[(1,zeroS),(2,.cells [.sl 3 2 0 (l.length+1) (l.length+1) 0,iv c.lose,iv c.gain,iv c.like,iv c.turn,.p (.lst 0 true 0 fun _=>[])] 27),(3,.arr (l.length+1) 2 (fun q=>eCopy ((x::l).getD q default)) 44)]
theorem lessC_len (s:Stem) (id:Int):∀ k,(lessC s id k).length≤k
 | 0=>Nat.le_refl _
 | k+1=>by
  have:=lessC_len s id k
  unfold lessC
  cases (!((s.copies.getD k default).id==id)) with
  | true=>simp only [cond_true,List.length_append,List.length_singleton];omega
  | false=>exact Nat.le_succ_of_le this
theorem app_copy (l:List Copy) (y:Copy) (q:Nat) (hq:q<l.length+1):(bif Nat.blt q l.length then eCopy (l.getD (0+q) default) else ((eCopy y).drop ((q - l.length)*2)).take 2)=eCopy ((l++[y]).getD q default):=by
 by_cases e:q<l.length
 ·rw [show Nat.blt q l.length=true from by simpa using e]
  simp only [cond_true,Nat.zero_add,List.getD_eq_getElem?_getD]
  rw [List.getElem?_append_left e]
 ·have:q=l.length:=by omega
  subst this
  rw [show Nat.blt l.length l.length=false from (by rw [←Bool.not_eq_true];intro h;have:=Nat.le_of_ble_eq_true h;omega)]
  simp [eCopy]
def memD (c:Costs) (l:List Copy):VS:=[(1,zeroS),(2,.cells [.p (eCopies l.isEmpty l),iv c.lose,iv c.gain,iv c.like,iv c.turn,.p (.lst 0 true 0 fun _=>[])] 27)]
theorem memC_frz {E:Env} (c:Costs) (l:List Copy) (p:PV) (x:Int) (q:PV) (n m:Nat):Vw E [] [(1,iv x),(2,.p p),(4,.ref 1 0),(5,.ref 2 0),(32,.p q),(33,nv n),(34,nv m)] (memC c l) [(1,iv x),(2,.p p),(4,.ref 1 0),(5,.ref 2 0),(32,.p q),(33,nv n),(34,nv m)] (memD c l):=by
 cases l with
 | nil =>
  exact Wk.vw (ps:=[(1,1),(2,2)]) ⟨rfl,rfl,(by repeat (first | exact wf_nil | refine wf_back rfl rfl rfl ?_)),_,rfl,⟨rfl,BImp.refl _,rfl,BImp.cells ⟨AImp.nil,AImp.refl _,AImp.refl _,AImp.refl _,AImp.refl _,AImp.refl _,trivial⟩,trivial⟩⟩
 | cons y l =>
  refine Vw.trans (Vw.freeze 3 rfl rfl ⟨Nat.le_of_eq (Nat.zero_add _),Nat.le_refl _,rfl⟩) ?_
  exact Wk.vw (ps:=[(1,1),(2,2)]) ⟨rfl,rfl,(by repeat (first | exact wf_nil | refine wf_back rfl rfl rfl ?_)),_,rfl,⟨rfl,BImp.refl _,rfl,BImp.cells ⟨AImp.lst fun k hk=>by rw [Nat.zero_add],AImp.refl _,AImp.refl _,AImp.refl _,AImp.refl _,AImp.refl _,trivial⟩,trivial⟩⟩
def memE (c:Costs) (cs:List Copy):List Never→VS
 | []=>memD c cs
 | x::l=>[(1,zeroS),(2,.cells [.p (eCopies cs.isEmpty cs),iv c.lose,iv c.gain,iv c.like,iv c.turn,.sl 3 2 0 (l.length+1) (l.length+1) 0] 27),(3,.arr (l.length+1) 2 (fun q=>eNever ((x::l).getD q default)) 57)]
theorem lessN_len (s:Stem) (id:Int):∀ k,(lessN s id k).length≤k
 | 0=>Nat.le_refl _
 | k+1=>by
  have:=lessN_len s id k
  unfold lessN
  cases (!((s.never.getD k default).src==id) && !((s.never.getD k default).dst==id)) with
  | true=>simp only [cond_true,List.length_append,List.length_singleton];omega
  | false=>exact Nat.le_succ_of_le this
theorem app_never (l:List Never) (y:Never) (q:Nat) (hq:q<l.length+1):(bif Nat.blt q l.length then eNever (l.getD (0+q) default) else ((eNever y).drop ((q - l.length)*2)).take 2)=eNever ((l++[y]).getD q default):=by
 by_cases e:q<l.length
 ·rw [show Nat.blt q l.length=true from by simpa using e]
  simp only [cond_true,Nat.zero_add,List.getD_eq_getElem?_getD]
  rw [List.getElem?_append_left e]
 ·have:q=l.length:=by omega
  subst this
  rw [show Nat.blt l.length l.length=false from (by rw [←Bool.not_eq_true];intro h;have:=Nat.le_of_ble_eq_true h;omega)]
  simp [eNever]
theorem Less_ok (s:Stem) (hs:s.Ok) (id:Int) (h7:s.copies.length≤100) (h40:s.never.length≤100):VP (sE r) 79 [.agg ((eStem s).map .p),iv id] (.agg ((eStem (lessM s id)).map .p)):=by
 refine VP.of (fn:=Tryz.f79) tb_ok rfl (by kernel_rfl) rfl rfl rfl ?_
 refine VSt.run tb_ok false [] 200 rfl trivial ?_
 refine VSt.viewC (Wk.vw (ps:=[(0,0),(1,1),(2,2)]) (F0:=[(1,iv id),(2,.ref 0 0),(4,.ref 1 0),(5,.ref 2 0),(14,.p (eCopies s.cn s.copies)),(16,nv 0),(15,nv s.copies.length)])
  (L0:=[(0,.cells ((eStem s).map .p) 27),(1,.cells [.p (.lst 0 true 0 fun _=>[]),iv 0,iv 0,iv 0,iv 0,.p (.lst 0 true 0 fun _=>[])] 27),(2,.cells [.p (.lst 0 true 0 fun _=>[]),iv s.costs.lose,iv s.costs.gain,iv s.costs.like,iv s.costs.turn,.p (.lst 0 true 0 fun _=>[])] 27)])
  ⟨rfl,rfl,(by repeat (first | exact wf_nil | refine wf_back rfl rfl rfl ?_)),_,rfl,LImp.refl _⟩) ?_
 refine VSt.viewC (Vw.freezeC 0 (eStem s) rfl rfl) ?_
 refine VSt.range tb_ok s.copies.length (by omega) (fun k l L=>l=[(1,iv id),(2,.p (.fp (eStem s) 0)),(4,.ref 1 0),(5,.ref 2 0),(14,.p (eCopies s.cn s.copies))]∧L=memC s.costs (lessC s id k)) rfl rfl
  ⟨[(1,iv id),(2,.p (.fp (eStem s) 0)),(4,.ref 1 0),(5,.ref 2 0),(14,.p (eCopies s.cn s.copies))],_,(by (refine Vw.sub' (subK (by repeat (first | exact sk_nil | refine sk_cons rfl ?_))))),rfl,rfl⟩ ?_ ?_
 ·rintro k l L hk ⟨rfl,hL⟩
  have hlen:=lessC_len s id k
  cases hacc:lessC s id k with
  | nil =>
   rw [hacc] at hL
   subst hL
   refine VSt.run tb_ok false [] 200 rfl (⟨hk,rfl⟩) ?_
   refine VSt.cond rfl (fun h=>?_) (fun h=>?_)
   ·refine VSt.run tb_ok false [] 200 rfl (⟨by decide,by decide,fun q hq=>by match q,hq with | 0,_=>rfl⟩) ?_
    refine ⟨[(1,iv id),(2,.p (.fp (eStem s) 0)),(4,.ref 1 0),(5,.ref 2 0),(14,.p (eCopies s.cn s.copies))],memC s.costs [s.copies.getD k default],Wk.vw (ps:=[(1,1),(2,2),(3,4)]) ⟨rfl,rfl,(by repeat (first | exact wf_nil | refine wf_back rfl rfl rfl ?_)),_,rfl,?_⟩,⟨rfl,?_⟩,rfl⟩
    ·exact ⟨rfl,BImp.refl _,rfl,BImp.refl _,rfl,BImp.arr fun q hq=>app_copy [] (s.copies.getD k default) q hq,trivial⟩
    ·show _=memC s.costs (bif !((s.copies.getD k default).id==id) then _ else _)
     rw [show (!((s.copies.getD k default).id==id))=true from h,hacc];rfl
   ·refine VSt.run tb_ok false [] 200 rfl trivial ?_
    refine ⟨[(1,iv id),(2,.p (.fp (eStem s) 0)),(4,.ref 1 0),(5,.ref 2 0),(14,.p (eCopies s.cn s.copies))],memC s.costs [],Wk.vw (ps:=[(1,1),(2,2)]) ⟨rfl,rfl,(by repeat (first | exact wf_nil | refine wf_back rfl rfl rfl ?_)),_,rfl,LImp.refl _⟩,⟨rfl,?_⟩,rfl⟩
    show _=memC s.costs (bif !((s.copies.getD k default).id==id) then _ else _)
    rw [show (!((s.copies.getD k default).id==id))=false from h,hacc];rfl
  | cons x l =>
   rw [hacc] at hL hlen
   subst hL
   have hlen:l.length+1≤k:=hlen
   refine VSt.run tb_ok false [] 200 rfl (⟨hk,rfl⟩) ?_
   refine VSt.cond rfl (fun h=>?_) (fun h=>?_)
   ·refine VSt.run tb_ok false [] 200 rfl (⟨by decide,by omega,(fun q hq=>by match q,hq with | 0,_=>rfl),rfl,rfl,Nat.lt_succ_self _,Nat.le_of_eq (Nat.zero_add _)⟩) ?_
    refine ⟨[(1,iv id),(2,.p (.fp (eStem s) 0)),(4,.ref 1 0),(5,.ref 2 0),(14,.p (eCopies s.cn s.copies))],[(1,zeroS),(2,.cells [.sl 3 2 0 (l.length+1+1) (l.length+1+1) 0,iv s.costs.lose,iv s.costs.gain,iv s.costs.like,iv s.costs.turn,.p (.lst 0 true 0 fun _=>[])] 27),(3,.arr (l.length+1+1) 2 (fun q=>eCopy ((x::(l++[s.copies.getD k default])).getD q default)) 44)],Wk.vw (ps:=[(1,1),(2,2),(3,5)]) ⟨rfl,rfl,(by repeat (first | exact wf_nil | refine wf_back rfl rfl rfl ?_)),_,rfl,?_⟩,⟨rfl,?_⟩,rfl⟩
    ·exact ⟨rfl,BImp.refl _,rfl,BImp.refl _,rfl,BImp.arr fun q hq=>app_copy (x::l) (s.copies.getD k default) q hq,trivial⟩
    ·show _=memC s.costs (bif !((s.copies.getD k default).id==id) then _ else _)
     rw [show (!((s.copies.getD k default).id==id))=true from h,hacc]
     show _=memC s.costs (x::(l++[s.copies.getD k default]))
     simp only [memC,List.length_append,List.length_singleton]
   ·refine VSt.run tb_ok false [] 200 rfl trivial ?_
    refine ⟨[(1,iv id),(2,.p (.fp (eStem s) 0)),(4,.ref 1 0),(5,.ref 2 0),(14,.p (eCopies s.cn s.copies))],memC s.costs (x::l),Wk.vw (ps:=[(1,1),(2,2),(3,3)]) ⟨rfl,rfl,(by repeat (first | exact wf_nil | refine wf_back rfl rfl rfl ?_)),_,rfl,LImp.refl _⟩,⟨rfl,?_⟩,rfl⟩
    show _=memC s.costs (bif !((s.copies.getD k default).id==id) then _ else _)
    rw [show (!((s.copies.getD k default).id==id))=false from h,hacc];rfl
 rintro l L ⟨rfl,hL⟩
 subst hL
 refine VSt.run tb_ok false [] 200 rfl trivial ?_
 refine VSt.viewC (Vw.trans (Vw.sub' (F0:=[(1,iv id),(2,.p (.fp (eStem s) 0)),(4,.ref 1 0),(5,.ref 2 0),(32,.p (eNevers s.nn s.never)),(33,nv s.never.length),(34,nv 0)]) (subK (by repeat (first | exact sk_nil | refine sk_cons rfl ?_)))) (memC_frz s.costs (lessC s id s.copies.length) _ id _ _ _)) ?_
 refine VSt.range tb_ok s.never.length (by omega) (fun k l L=>l=[(1,iv id),(2,.p (.fp (eStem s) 0)),(4,.ref 1 0),(5,.ref 2 0),(32,.p (eNevers s.nn s.never))]∧L=memE s.costs (lessC s id s.copies.length) (lessN s id k)) rfl rfl
  ⟨[(1,iv id),(2,.p (.fp (eStem s) 0)),(4,.ref 1 0),(5,.ref 2 0),(32,.p (eNevers s.nn s.never))],_,(by (refine Vw.sub' (subK (by repeat (first | exact sk_nil | refine sk_cons rfl ?_))))),rfl,rfl⟩ ?_ ?_
 ·rintro k l L hk ⟨rfl,hL⟩
  have hlen:=lessN_len s id k
  have same:(!((s.never.getD k default).src==id) && !((s.never.getD k default).dst==id))=false→lessN s id (k+1)=lessN s id k:=fun h=>by
   show (bif _ then _ else _)=_
   rw [h];rfl
  have more:(!((s.never.getD k default).src==id) && !((s.never.getD k default).dst==id))=true→lessN s id (k+1)=lessN s id k++[s.never.getD k default]:=fun h=>by
   show (bif _ then _ else _)=_
   rw [h];rfl
  cases hacc:lessN s id k with
  | nil =>
   rw [hacc] at hL
   subst hL
   refine VSt.run tb_ok false [] 200 rfl (⟨hk,rfl⟩) ?_
   first | refine VSt.splitO 42 rfl (fun h1=>?_) (fun h1=>?_) | refine VSt.splitD 42 rfl (fun h1=>?_) (fun h1=>?_)
   ·refine VSt.run tb_ok false [] 200 rfl trivial ?_
    refine VSt.cond rfl (fun h2=>?_) (fun h2=>?_)
    ·refine VSt.run tb_ok false [] 200 rfl (⟨by decide,by decide,fun q hq=>by match q,hq with | 0,_=>rfl⟩) ?_
     refine ⟨[(1,iv id),(2,.p (.fp (eStem s) 0)),(4,.ref 1 0),(5,.ref 2 0),(32,.p (eNevers s.nn s.never))],memE s.costs (lessC s id s.copies.length) [s.never.getD k default],Wk.vw (ps:=[(1,1),(2,2),(3,4)]) ⟨rfl,rfl,(by repeat (first | exact wf_nil | refine wf_back rfl rfl rfl ?_)),_,rfl,?_⟩,⟨rfl,?_⟩,rfl⟩
     ·exact ⟨rfl,BImp.refl _,rfl,BImp.refl _,rfl,BImp.arr fun q hq=>app_never [] (s.never.getD k default) q hq,trivial⟩
     ·rw [more (by rw [h1,h2];rfl),hacc];rfl
    ·refine VSt.run tb_ok false [] 200 rfl trivial ?_
     refine ⟨[(1,iv id),(2,.p (.fp (eStem s) 0)),(4,.ref 1 0),(5,.ref 2 0),(32,.p (eNevers s.nn s.never))],memE s.costs (lessC s id s.copies.length) [],Wk.vw (ps:=[(1,1),(2,2)]) ⟨rfl,rfl,(by repeat (first | exact wf_nil | refine wf_back rfl rfl rfl ?_)),_,rfl,LImp.refl _⟩,⟨rfl,?_⟩,rfl⟩
     rw [same (by rw [h1,h2];rfl),hacc]
   ·refine VSt.run tb_ok false [] 200 rfl trivial ?_
    refine ⟨[(1,iv id),(2,.p (.fp (eStem s) 0)),(4,.ref 1 0),(5,.ref 2 0),(32,.p (eNevers s.nn s.never))],memE s.costs (lessC s id s.copies.length) [],Wk.vw (ps:=[(1,1),(2,2)]) ⟨rfl,rfl,(by repeat (first | exact wf_nil | refine wf_back rfl rfl rfl ?_)),_,rfl,LImp.refl _⟩,⟨rfl,?_⟩,rfl⟩
    rw [same (by rw [h1];rfl),hacc]
  | cons x l =>
   rw [hacc] at hL hlen
   subst hL
   have hlen:l.length+1≤k:=hlen
   refine VSt.run tb_ok false [] 200 rfl (⟨hk,rfl⟩) ?_
   first | refine VSt.splitO 42 rfl (fun h1=>?_) (fun h1=>?_) | refine VSt.splitD 42 rfl (fun h1=>?_) (fun h1=>?_)
   ·refine VSt.run tb_ok false [] 200 rfl trivial ?_
    refine VSt.cond rfl (fun h2=>?_) (fun h2=>?_)
    ·refine VSt.run tb_ok false [] 200 rfl (⟨by decide,by omega,(fun q hq=>by match q,hq with | 0,_=>rfl),rfl,rfl,Nat.lt_succ_self _,Nat.le_of_eq (Nat.zero_add _)⟩) ?_
     refine ⟨[(1,iv id),(2,.p (.fp (eStem s) 0)),(4,.ref 1 0),(5,.ref 2 0),(32,.p (eNevers s.nn s.never))],[(1,zeroS),(2,.cells [.p (eCopies (lessC s id s.copies.length).isEmpty (lessC s id s.copies.length)),iv s.costs.lose,iv s.costs.gain,iv s.costs.like,iv s.costs.turn,.sl 3 2 0 (l.length+1+1) (l.length+1+1) 0] 27),(3,.arr (l.length+1+1) 2 (fun q=>eNever ((x::(l++[s.never.getD k default])).getD q default)) 57)],Wk.vw (ps:=[(1,1),(2,2),(3,5)]) ⟨rfl,rfl,(by repeat (first | exact wf_nil | refine wf_back rfl rfl rfl ?_)),_,rfl,?_⟩,⟨rfl,?_⟩,rfl⟩
     ·exact ⟨rfl,BImp.refl _,rfl,BImp.refl _,rfl,BImp.arr fun q hq=>app_never (x::l) (s.never.getD k default) q hq,trivial⟩
     ·rw [more (by rw [h1,h2];rfl),hacc]
      show _=memE _ _ (x::(l++[s.never.getD k default]))
      simp only [memE,List.length_append,List.length_singleton]
    ·refine VSt.run tb_ok false [] 200 rfl trivial ?_
     refine ⟨[(1,iv id),(2,.p (.fp (eStem s) 0)),(4,.ref 1 0),(5,.ref 2 0),(32,.p (eNevers s.nn s.never))],memE s.costs (lessC s id s.copies.length) (x::l),Wk.vw (ps:=[(1,1),(2,2),(3,3)]) ⟨rfl,rfl,(by repeat (first | exact wf_nil | refine wf_back rfl rfl rfl ?_)),_,rfl,LImp.refl _⟩,⟨rfl,?_⟩,rfl⟩
     rw [same (by rw [h1,h2];rfl),hacc]
   ·refine VSt.run tb_ok false [] 200 rfl trivial ?_
    refine ⟨[(1,iv id),(2,.p (.fp (eStem s) 0)),(4,.ref 1 0),(5,.ref 2 0),(32,.p (eNevers s.nn s.never))],memE s.costs (lessC s id s.copies.length) (x::l),Wk.vw (ps:=[(1,1),(2,2),(3,3)]) ⟨rfl,rfl,(by repeat (first | exact wf_nil | refine wf_back rfl rfl rfl ?_)),_,rfl,LImp.refl _⟩,⟨rfl,?_⟩,rfl⟩
    rw [same (by rw [h1];rfl),hacc]
 ·rintro l L ⟨rfl,hL⟩
  cases hacc:lessN s id s.never.length with
  | nil =>
   rw [hacc] at hL
   subst hL
   refine VSt.run tb_ok false [] 200 rfl trivial ?_
   refine ⟨rfl,_,rfl,rfl,?_⟩
   show AImp _ (.agg ((eStem (mkStem s.costs (lessC s id s.copies.length) (lessN s id s.never.length))).map .p))
   rw [hacc]
   exact AImp.agg ⟨AImp.refl _,AImp.refl _,AImp.refl _,AImp.refl _,AImp.refl _,AImp.nil,trivial⟩
  | cons x l =>
   rw [hacc] at hL
   subst hL
   refine VSt.run tb_ok false [55] 200 rfl trivial ?_
   refine VSt.viewO (Vw.freeze 3 rfl rfl ⟨Nat.le_of_eq (Nat.zero_add _),Nat.le_refl _,rfl⟩) ?_
   refine VSt.run tb_ok false [] 200 rfl trivial ?_
   refine ⟨rfl,_,rfl,rfl,?_⟩
   show AImp _ (.agg ((eStem (mkStem s.costs (lessC s id s.copies.length) (lessN s id s.never.length))).map .p))
   rw [hacc]
   exact AImp.agg ⟨AImp.refl _,AImp.refl _,AImp.refl _,AImp.refl _,AImp.refl _,AImp.lst fun k hk=>by rw [Nat.zero_add];rfl,trivial⟩
end Go.Proofs.YtncpeobcgmkkbaaGreat
/- Walks: the specification's Without. -/
set_option maxRecDepth 100000
namespace Go.Proofs.YtncpeobcgmkkbaaGreat
variable {r:Tr (List Value×TypeId)}
theorem AImps.refl:∀ (l:List AV),AImps l l
 | []=>trivial
 | _::l=>⟨AImp.refl _,AImps.refl l⟩
end Go.Proofs.YtncpeobcgmkkbaaGreat
/- Walks: clones. -/
set_option maxRecDepth 100000
namespace Go.Proofs.YtncpeobcgmkkbaaGreat
variable {r:Tr (List Value×TypeId)}
theorem cloneInt_ok {b:Bool} {l:List Int} (hb:b=true→l=[]) (hn:l.length<1000000):VP (sE r) 54 [.p (eInts b l)] (.p (eInts b l)):=by
 refine VP.of (fn:=Tryz.f54) tb_ok rfl (by kernel_rfl) rfl rfl rfl ?_
 refine VSt.run tb_ok false [] 200 rfl trivial ?_
 refine VSt.cond rfl (fun h=>?_) (fun h=>?_)
 ·refine VSt.run tb_ok false [] 200 rfl trivial ?_
  have e:=hb h
  subst e;subst h
  exact ⟨rfl,_,rfl,rfl,AImp.nil⟩
 ·subst h
  cases hl:l with
  | nil =>
   subst hl
   refine VSt.run tb_ok true [2] 200 rfl (rfl) ?_
   refine VSt.viewO (Wk.vw (ps:=[(0,0)]) (F0:=[(7,.sl 0 1 0 0 0 2)]) (L0:=[(0,.arr 0 1 (fun _=>[]) 3)]) ⟨rfl,rfl,(by repeat (first | exact wf_nil | refine wf_back rfl rfl rfl ?_)),_,rfl,LImp.refl _⟩) ?_
   refine VSt.viewO (Vw.freeze 0 rfl rfl ⟨Nat.le_refl _,Nat.le_refl _,rfl⟩) ?_
   refine VSt.run tb_ok false [] 200 rfl trivial ?_
   exact ⟨rfl,_,rfl,rfl,AImp.lst fun k hk=>absurd hk (Nat.not_lt_zero k)⟩
  | cons x m =>
   subst hl
   refine VSt.run tb_ok false [2] 200 rfl (⟨Nat.succ_pos _,(by simp only [List.length_cons] at hn ⊢;omega),(fun q hq=>rfl),rfl,rfl,(by simp only [List.length_cons];omega),Nat.le_refl _⟩) ?_
   refine VSt.viewO (Wk.vw (ps:=[(0,1)]) (F0:=[(7,.sl 0 1 0 (0+(m.length+1)) (0+(m.length+1)) 0)]) (L0:=[(0,.arr (0+(m.length+1)) 1 (fun q=>[.int .i64 ((x::m).getD q 0)]) 3)]) ⟨rfl,rfl,(by repeat (first | exact wf_nil | refine wf_back rfl rfl rfl ?_)),_,rfl,⟨rfl,BImp.arr fun q hq=>rfl,trivial⟩⟩) ?_
   refine VSt.viewO (Vw.freeze 0 rfl rfl ⟨Nat.le_of_eq (Nat.zero_add _),Nat.le_refl _,rfl⟩) ?_
   refine VSt.run tb_ok false [] 200 rfl trivial ?_
   refine ⟨rfl,_,rfl,rfl,?_⟩
   show AImp (.p (.lst 3 false (0+(m.length+1)) _)) (.p (.lst 3 false (m.length+1) _))
   rw [Nat.zero_add]
   exact AImp.lst fun k hk=>by rw [Nat.zero_add]
end Go.Proofs.YtncpeobcgmkkbaaGreat
/- Stems as arguments. -/
set_option maxRecDepth 100000
namespace Go.Proofs.YtncpeobcgmkkbaaGreat
noncomputable abbrev sE0:Env:=sE .nil
theorem arg_ints {n:Nat} {q:List PV} (h:Sh sE0 (n+2) 28 q):∃ b l,PImps q [eInts b l]∧(b=true→l=[])∧l.length<9223372036854775808:=by
 obtain ⟨nb,m,f,rfl,h1,h2,h3⟩:=Sh.slice (e:=3) (by kernel_rfl) h
 obtain ⟨l,rfl,h4⟩:=list_of (0:Int) (P:=fun k x=>f k=[.int .i64 x]) fun k hk=>let ⟨x,h,_⟩:=Sh.int (k:=.i64) (by kernel_rfl) (h3 k hk);⟨x,h⟩
 exact ⟨nb,l,⟨PImp.lst fun k hk=>by rw [h4 k hk];exact ⟨PImp.refl _,trivial⟩,trivial⟩,fun h=>List.length_eq_zero_iff.1 (h1 h),h2⟩
theorem arg_copy {n:Nat} {q:List PV} (h:Sh sE0 (n+3) 44 q):∃ c:Copy,PImps q (eCopy c)∧(c.wn=true→c.words=[])∧c.words.length<9223372036854775808:=by
 obtain ⟨h1,h2⟩:=Sh.struct (sz:=2) (l:=[(3,0),(28,1)]) (by kernel_rfl) h
 match q,h1 with
 | [a,b],_ =>
  obtain ⟨x,h3,_⟩:=Sh.int (k:=.i64) (by kernel_rfl) (h2 (3,0) (by simp) 1 (by kernel_rfl))
  obtain ⟨wn,l,h4,h5,h6⟩:=arg_ints (h2 (28,1) (by simp) 1 (by kernel_rfl))
  have h3:[a]=[.int .i64 x]:=h3
  cases h3
  exact ⟨⟨x,l,wn⟩,⟨PImp.refl _,h4⟩,h5,h6⟩
theorem arg_never {n:Nat} {q:List PV} (h:Sh sE0 (n+2) 57 q):∃ c:Never,q=eNever c:=by
 obtain ⟨h1,h2⟩:=Sh.struct (sz:=2) (l:=[(3,0),(3,1)]) (by kernel_rfl) h
 match q,h1 with
 | [a,b],_ =>
  obtain ⟨x,h3,_⟩:=Sh.int (k:=.i64) (by kernel_rfl) (h2 (3,0) (by simp) 1 (by kernel_rfl))
  obtain ⟨y,h4,_⟩:=Sh.int (k:=.i64) (by kernel_rfl) (h2 (3,1) (by simp) 1 (by kernel_rfl))
  have h3:[a]=[.int .i64 x]:=h3
  have h4:[b]=[.int .i64 y]:=h4
  cases h3;cases h4
  exact ⟨⟨x,y⟩,rfl⟩
theorem arg_costs {n:Nat} {q:List PV} (h:Sh sE0 (n+2) 24 q):∃ c:Costs,q=eCosts c:=by
 obtain ⟨h1,h2⟩:=Sh.struct (sz:=4) (l:=[(3,0),(3,1),(3,2),(3,3)]) (by kernel_rfl) h
 match q,h1 with
 | [a,b,c,d],_ =>
  obtain ⟨x,h3,_⟩:=Sh.int (k:=.i64) (by kernel_rfl) (h2 (3,0) (by simp) 1 (by kernel_rfl))
  obtain ⟨y,h4,_⟩:=Sh.int (k:=.i64) (by kernel_rfl) (h2 (3,1) (by simp) 1 (by kernel_rfl))
  obtain ⟨z,h5,_⟩:=Sh.int (k:=.i64) (by kernel_rfl) (h2 (3,2) (by simp) 1 (by kernel_rfl))
  obtain ⟨w,h6,_⟩:=Sh.int (k:=.i64) (by kernel_rfl) (h2 (3,3) (by simp) 1 (by kernel_rfl))
  have h3:[a]=[.int .i64 x]:=h3
  have h4:[b]=[.int .i64 y]:=h4
  have h5:[c]=[.int .i64 z]:=h5
  have h6:[d]=[.int .i64 w]:=h6
  cases h3;cases h4;cases h5;cases h6
  exact ⟨⟨x,y,z,w⟩,rfl⟩
structure Stem.Flags (s:Stem):Prop where
 c:s.cn=true→s.copies=[]
 n:s.nn=true→s.never=[]
 w:∀ k,k<s.copies.length→(s.copies.getD k default).wn=true→(s.copies.getD k default).words=[]
theorem arg_stem {n:Nat} {q:List PV} (h:Sh sE0 (n+5) 27 q):∃ s:Stem,PImps q (eStem s)∧s.Ok∧s.Flags:=by
 obtain ⟨h1,h2⟩:=Sh.struct (sz:=6) (l:=[(22,0),(24,1),(25,5)]) (by kernel_rfl) h
 match q,h1 with
 | [a,b,c,d,e,f],_ =>
  obtain ⟨cn,m,g,k1,k2,k3,k4⟩:=Sh.slice (e:=44) (by kernel_rfl) (h2 (22,0) (by simp) 1 (by kernel_rfl))
  obtain ⟨co,k5⟩:=arg_costs (h2 (24,1) (by simp) 4 (by kernel_rfl))
  obtain ⟨nn,m2,g2,k6,k7,k8,k9⟩:=Sh.slice (e:=57) (by kernel_rfl) (h2 (25,5) (by simp) 1 (by kernel_rfl))
  have k1:[a]=_:=k1
  have k5:[b,c,d,e]=_:=k5
  have k6:[f]=_:=k6
  cases k1;cases k5;cases k6
  obtain ⟨l,rfl,h4⟩:=list_of (default:Copy) (P:=fun k c=>PImps (g k) (eCopy c)∧(c.wn=true→c.words=[])∧c.words.length<9223372036854775808) fun k hk=>arg_copy (k4 k hk)
  obtain ⟨l2,rfl,h5⟩:=list_of (default:Never) (P:=fun k c=>g2 k=eNever c) fun k hk=>arg_never (k9 k hk)
  refine ⟨⟨cn,l,co,nn,l2⟩,⟨PImp.lst fun k hk=>(h4 k hk).1,PImp.refl _,PImp.refl _,PImp.refl _,PImp.refl _,PImp.lst fun k hk=>by rw [h5 k hk];exact ⟨PImp.refl _,PImp.refl _,trivial⟩,trivial⟩,⟨k3,fun k hk=>(h4 k hk).2.2,k8⟩,⟨fun h=>List.length_eq_zero_iff.1 (k2 h),fun h=>List.length_eq_zero_iff.1 (k7 h),fun k hk=>(h4 k hk).2.1⟩⟩
theorem arg_one {n:Nat} {q:List PV} (h:Sh sE0 (n+4) 46 q):∃ (c:Copy) (co:Costs) (id a b:Int),PImps q (eCopy c++(eCosts co++[.int .i64 id,.int .i64 a,.int .i64 b]))∧(c.wn=true→c.words=[])∧c.words.length<9223372036854775808:=by
 obtain ⟨h1,h2⟩:=Sh.struct (sz:=9) (l:=[(44,0),(24,2),(3,6),(3,7),(3,8)]) (by kernel_rfl) h
 match q,h1 with
 | [a,b,c,d,e,f,g,i,j],_ =>
  obtain ⟨cp,k1,k2,k3⟩:=arg_copy (h2 (44,0) (by simp) 2 (by kernel_rfl))
  obtain ⟨co,k5⟩:=arg_costs (h2 (24,2) (by simp) 4 (by kernel_rfl))
  obtain ⟨x,h3,_⟩:=Sh.int (k:=.i64) (by kernel_rfl) (h2 (3,6) (by simp) 1 (by kernel_rfl))
  obtain ⟨y,h4,_⟩:=Sh.int (k:=.i64) (by kernel_rfl) (h2 (3,7) (by simp) 1 (by kernel_rfl))
  obtain ⟨z,h5,_⟩:=Sh.int (k:=.i64) (by kernel_rfl) (h2 (3,8) (by simp) 1 (by kernel_rfl))
  have k1:PImps [a,b] _:=k1
  have k5:[c,d,e,f]=_:=k5
  have h3:[g]=[.int .i64 x]:=h3
  have h4:[i]=[.int .i64 y]:=h4
  have h5:[j]=[.int .i64 z]:=h5
  cases h3;cases h4;cases h5;cases k5
  exact ⟨cp,co,x,y,z,⟨k1.1,k1.2.1,PImp.refl _,PImp.refl _,PImp.refl _,PImp.refl _,PImp.refl _,PImp.refl _,PImp.refl _,trivial⟩,k2,k3⟩
end Go.Proofs.YtncpeobcgmkkbaaGreat
/- Walks: copies of a stem, of one's own. -/
set_option maxRecDepth 100000
namespace Go.Proofs.YtncpeobcgmkkbaaGreat
variable {r:Tr (List Value×TypeId)}
theorem BImp.arr' {n n' sz:Nat} {f g:Nat→List PV} {t:TypeId} (e:n=n') (h:∀ k,k<n→f k=g k):BImp (.arr n sz f t) (.arr n' sz g t):=e ▸ BImp.arr h
def fNevers (l:List Never):Nat→List PV:=fun q=>eNever (l.getD q default)
def fCopies (l:List Copy):Nat→List PV:=fun q=>eCopy (l.getD q default)
theorem Vw.empAcc {E:Env} {d i sz sz' sz2:Nat} {f g:Nat→List PV} {t t':TypeId}:Vw E [] [(d,.sl i sz 0 0 0 2)] [(i,.arr 0 sz' f t)] [(d,.acc false i sz 0)] [(i,.acc 0 sz2 g t')]:=by
 intro T S Z j hS hF
 obtain ⟨b,hj,vs,gg,h1,h2,h3,h4⟩:=hS.blk i (.arr 0 sz' f t) (by simp [bk]) id
 have hr:=hS.unrom hj
 refine ⟨ZB Z b,fun _=>none,⟨fun c hc=>?_,fun k c hk=>(by cases hk),fun k k' c hk=>(by cases hk),fun k hk=>rfl,fun k vb hk=>?_,fun c q hc=>⟨(hS.rom c q hc).1,fun k hk=>(by cases hk)⟩⟩,fun x a ha=>?_,⟨Nat.le_refl _,fun _ _ _=>rfl,fun c hc=>.inl hc,fun c hc=>?_,fun k c hk=>(by cases hk),Nat.le_refl _,fun _ h _ _=>h⟩,fun k hk=>(by cases hk)⟩
 ·rcases hc with hc | rfl
  ·exact hS.zlt c hc
  ·exact (hS.jlt i _ hj).1
 ·simp only [bk] at hk
  cases hb:Nat.beq i k with
  | true=>rw [hb] at hk;cases hk;exact .inl rfl
  | false=>rw [hb] at hk;cases hk
 ·simp only [ak] at ha
  cases hb:Nat.beq d x with
  | true =>
   rw [hb] at ha
   cases ha
   obtain ⟨v,h5,h6⟩:=hF x (.sl i sz 0 0 0 2) (by simp only [ak];rw [hb];rfl)
   refine ⟨v,h5,?_⟩
   cases h6 with
   | sl h =>
    rw [hj] at h;cases h
    exact .accE (.inr rfl) ((rdc_none hr).trans h1) (by simp)
  | false=>rw [hb] at ha;cases ha
 ·rcases hc with hc | rfl
  ·exact .inl hc
  ·exact .inr (.inr ⟨i,hj⟩)
theorem cloneNA_ok {b:Bool} {l:List Never} (hb:b=true→l=[]) (hn:l.length<1000000):VC (sE r) [] 114 [.p (eNevers b l)] [] (fun a L=>a = .acc b 0 2 l.length∧L=[(0,.acc l.length 2 (fNevers l) 57)]):=by
 refine VC.of (fn:=Tryz.f114) tb_ok rfl (by kernel_rfl) rfl rfl ?_
 refine VSt.run tb_ok false [] 200 rfl trivial ?_
 refine VSt.cond rfl (fun h=>?_) (fun h=>?_)
 ·refine VSt.viewC (Vw.adopt 0 2 (fNevers l) 57 rfl) ?_
  refine VSt.run tb_ok false [] 200 rfl trivial ?_
  have e:=hb h
  subst e;subst h
  exact ⟨rfl,_,[(0,0)],_,_,rfl,⟨rfl,rfl,wf_imp rfl rfl AImp.nilAcc wf_nil,_,rfl,LImp.refl _⟩,rfl,rfl⟩
 ·subst h
  cases hl:l with
  | nil =>
   subst hl
   refine VSt.run tb_ok true [2] 200 rfl (rfl) ?_
   refine VSt.viewO (Vw.trans (Wk.vw (ps:=[(0,0)]) (F0:=[(7,.sl 0 2 0 0 0 2)]) (L0:=[(0,.arr 0 2 (fun _=>[]) 57)]) ⟨rfl,rfl,(by repeat (first | exact wf_nil | refine wf_back rfl rfl rfl ?_)),_,rfl,LImp.refl _⟩) (Vw.empAcc (sz2:=2) (g:=fNevers []) (t':=57))) ?_
   refine VSt.run tb_ok false [] 200 rfl trivial ?_
   exact ⟨rfl,_,[(0,0)],_,_,rfl,⟨rfl,rfl,wf_imp rfl rfl (AImp.refl _) wf_nil,_,rfl,LImp.refl _⟩,rfl,rfl⟩
  | cons x m =>
   subst hl
   refine VSt.run tb_ok false [] 200 rfl (⟨Nat.succ_pos _,(by simp only [List.length_cons] at hn ⊢;omega),(fun q hq=>rfl),rfl,rfl,(by simp only [List.length_cons];omega),Nat.le_refl _⟩) ?_
   exact ⟨rfl,_,[(0,1)],_,[(0,.acc (m.length+1) 2 (fNevers (x::m)) 57)],rfl,⟨rfl,rfl,wf_imp rfl rfl (AImp.slAcc (Nat.succ_pos _) (Nat.zero_add _) (Nat.zero_add _)) wf_nil,_,rfl,⟨rfl,BImp.arrAcc (Nat.zero_add _) fun q hq=>rfl,trivial⟩⟩,rfl,rfl⟩
theorem app_copyF (l:List Copy) (k q:Nat) (hq:q<k+1):(bif Nat.blt q k then fCopies l q else ((eCopy (l.getD k default)).drop ((q - k)*2)).take 2)=fCopies l q:=by
 by_cases e:q<k
 ·rw [show Nat.blt q k=true from by simpa using e];rfl
 ·have:q=k:=by omega
  subst this
  rw [show Nat.blt q q=false from (by rw [←Bool.not_eq_true];intro h;have:=Nat.le_of_ble_eq_true h;omega)]
  simp [eCopy,fCopies]
theorem copied_ok {s:Stem} (hf:s.Flags) (hv:s.Valid):VC (sE r) [] 83 [.agg ((eStem s).map .p)] [] (fun a L=>a = .agg [.acc true 1 2 s.copies.length,iv s.costs.lose,iv s.costs.gain,iv s.costs.like,iv s.costs.turn,.acc s.nn 0 2 s.never.length] ∧
  L=[(1,.acc s.copies.length 2 (fCopies s.copies) 44),(0,.acc s.never.length 2 (fNevers s.never) 57)]):=by
 refine VC.of (fn:=Tryz.f83) tb_ok rfl (by kernel_rfl) rfl rfl ?_
 refine VSt.run tb_ok false [] 200 rfl trivial ?_
 refine VSt.ccD [] rfl rfl rfl rfl rfl rfl rfl rfl rfl rfl rfl rfl (cloneNA_ok hf.n (by have:=hv.n;omega)) ?_
 rintro a L' ⟨rfl,rfl⟩
 refine VSt.run tb_ok false [] 200 rfl trivial ?_
 refine VSt.viewC (Wk.vw (ps:=[(3,3),(2,2),(1,1)]) (F0:=[(15,nv 0),(14,nv s.copies.length),(2,.ref 1 0),(3,.ref 3 0),(13,.p (eCopies s.cn s.copies))])
  (L0:=[(3,.cells [.p (.lst 0 true 0 fun _=>[]),iv s.costs.lose,iv s.costs.gain,iv s.costs.like,iv s.costs.turn,.acc s.nn 2 2 s.never.length] 27),(2,.acc s.never.length 2 (fNevers s.never) 57),(1,zeroS)])
  ⟨rfl,rfl,(by repeat (first | exact wf_nil | refine wf_back rfl rfl rfl ?_)),_,rfl,LImp.refl _⟩) ?_
 refine VSt.viewC (Vw.adopt 4 2 (fCopies s.copies) 44 rfl) ?_
 refine VSt.rangeF tb_ok s.copies.length (by have:=hv.c;omega) (fun _=>[(2,.ref 1 0),(3,.ref 3 0),(13,.p (eCopies s.cn s.copies))])
  (fun k=>[(4,.acc k 2 (fCopies s.copies) 44),(3,.cells [.acc true 4 2 k,iv s.costs.lose,iv s.costs.gain,iv s.costs.like,iv s.costs.turn,.acc s.nn 2 2 s.never.length] 27),(2,.acc s.never.length 2 (fNevers s.never) 57),(1,zeroS)])
  (fun _=>True) rfl rfl (fun _=>rfl) ?_ trivial (fun k hk hp=>?_) (fun hp=>?_)
 ·refine Vw.imp ⟨rfl,BImp.refl _,rfl,BImp.cells ⟨AImp.nilAcc,AImp.refl _,AImp.refl _,AImp.refl _,AImp.refl _,AImp.refl _,trivial⟩,rfl,BImp.refl _,rfl,BImp.refl _,trivial⟩
 ·refine VSt.run tb_ok false [] 200 rfl (⟨hk,rfl⟩) ?_
  first | refine VSt.pc rfl rfl rfl rfl rfl rfl rfl rfl ((cloneInt_ok (b:=(s.copies.getD k default).wn) (l:=(s.copies.getD k default).words) (hf.w k hk) (by have:=(ckCopy_of (hv.copy hk)).2.1;omega))) ?_ | refine VSt.pcD rfl rfl rfl rfl rfl rfl rfl rfl ((cloneInt_ok (b:=(s.copies.getD k default).wn) (l:=(s.copies.getD k default).words) (hf.w k hk) (by have:=(ckCopy_of (hv.copy hk)).2.1;omega))) ?_
  refine VSt.run tb_ok false [] 200 rfl (⟨by decide,by have:=hv.c;omega,(fun q hq=>by match q,hq with | 0,_=>rfl),rfl,rfl,rfl⟩) ?_
  refine ⟨Wk.vw (ps:=[(4,6),(3,3),(2,2),(1,1)]) ⟨rfl,rfl,(by repeat (first | exact wf_nil | refine wf_back rfl rfl rfl ?_)),_,rfl,⟨rfl,BImp.acc rfl (fun q hq=>app_copyF s.copies k q hq),rfl,BImp.refl _,rfl,BImp.refl _,rfl,BImp.refl _,trivial⟩⟩,trivial⟩
 refine VSt.run tb_ok false [] 200 rfl trivial ?_
 exact ⟨rfl,_,[(1,4),(0,2)],_,_,rfl,⟨rfl,rfl,wf_imp rfl rfl (AImp.refl _) wf_nil,_,rfl,LImp.refl _⟩,rfl,rfl⟩
end Go.Proofs.YtncpeobcgmkkbaaGreat
/- Walks: one more copy is sorted in. -/
set_option maxRecDepth 100000
namespace Go.Proofs.YtncpeobcgmkkbaaGreat
variable {r:Tr (List Value×TypeId)}
def Asc (l:List Copy):Prop:=∀ k,0<k→k<l.length→(l.getD (k - 1) default).id<(l.getD k default).id
theorem Asc.lt {l:List Copy} (ha:Asc l):∀ {k m:Nat},k<m→m<l.length→(l.getD k default).id<(l.getD m default).id
 | k,0,h,_=>absurd h (Nat.not_lt_zero k)
 | k,m+1,h,hm=>by
  have h1:=ha (m+1) (Nat.succ_pos _) hm
  rw [Nat.add_sub_cancel] at h1
  by_cases e:k=m
  ·subst e;exact h1
  ·exact Int.lt_trans (Asc.lt ha (by omega) (by omega)) h1
end Go.Proofs.YtncpeobcgmkkbaaGreat
/- Walks: a stem with one more copy. -/
set_option maxRecDepth 100000
namespace Go.Proofs.YtncpeobcgmkkbaaGreat
variable {r:Tr (List Value×TypeId)}
theorem AImp.tup {cs ds:List AV} (h:AImps cs ds):AImp (.tup cs) (.tup ds):=fun E S Z j v hv=>by
 cases hv with
 | tup hv=>exact .tup (h.vrs hv)
theorem nn_eq {b:Bool} {α : Type} {l:List α} (h:b=true→l=[]):(b&&Nat.beq l.length 0)=b:=by
 cases b with
 | false=>rfl
 | true=>rw [h rfl];rfl
end Go.Proofs.YtncpeobcgmkkbaaGreat
/- Walks: a stem with one more copy, by the specification. -/
set_option maxRecDepth 100000
namespace Go.Proofs.YtncpeobcgmkkbaaGreat
variable {r:Tr (List Value×TypeId)}
theorem blt_t {a b:Nat} (h:a<b):Nat.blt a b=true:=by simpa using h
theorem blt_f {a b:Nat} (h:¬ a<b):Nat.blt a b=false:=by rw [←Bool.not_eq_true];simpa using h
theorem AImp.slE {i sz m m' c c':Nat} (h:m=m') (h2:c=c'):AImp (.sl i sz 0 m c 0) (.sl i sz 0 m' c' 0):=by subst h h2;exact AImp.refl _
def sg (c:Copy) (k:Nat):List PV:=((eCopy c).drop (k*2)).take 2
theorem sg0 (c:Copy):sg c 0=eCopy c:=rfl
end Go.Proofs.YtncpeobcgmkkbaaGreat
/- Walks: copies and nevers taken away. -/
set_option maxRecDepth 100000
namespace Go.Proofs.YtncpeobcgmkkbaaGreat
variable {r:Tr (List Value×TypeId)}
def idxG {α : Type} (l:List α) (p : α → Bool):Int:=match l.findIdx? p with
 | some k=>k
 | none=> -1
section
variable {α : Type} [Inhabited α]
theorem getG {l:List α} {k:Nat} (h:k<l.length):l.getD k default=l[k]:=by
 rw [List.getD_eq_getElem?_getD,List.getElem?_eq_getElem h];rfl
theorem idxG_hit {l:List α} {k:Nat} {p : α → Bool} (hk:k<l.length) (h:p (l.getD k default)=true) (hb:∀ i,i<k→p (l.getD i default)=false):idxG l p=k:=by
 unfold idxG
 have:l.findIdx? p=some k:=by
  rw [List.findIdx?_eq_some_iff_getElem]
  refine ⟨hk,by rw [getG hk] at h;exact h,fun j hj=>?_⟩
  have:=hb j hj
  rw [getG (by omega)] at this
  simp [this]
 rw [this]
theorem idxG_miss {l:List α} {p : α → Bool} (hb:∀ i,i<l.length→p (l.getD i default)=false):idxG l p = -1:=by
 unfold idxG
 have:l.findIdx? p=none:=by
  rw [List.findIdx?_eq_none_iff]
  intro x hx
  obtain ⟨k,hk,rfl⟩:=List.mem_iff_getElem.1 hx
  have:=hb k hk
  rwa [getG hk] at this
 rw [this]
theorem idxG_first {l:List α} {p : α → Bool} {k:Nat} (h:idxG l p=Int.ofNat k):k<l.length∧p (l.getD k default)=true∧∀ i,i<k→p (l.getD i default)=false:=by
 unfold idxG at h
 cases hf:l.findIdx? p with
 | none=>rw [hf] at h;exact absurd h (by intro h;cases h)
 | some i =>
  rw [hf] at h
  have:i=k:=Int.ofNat_inj.1 h
  subst this
  rw [List.findIdx?_eq_some_iff_getElem] at hf
  obtain ⟨h1,h2,h3⟩:=hf
  refine ⟨h1,by rw [getG h1];exact h2,fun j hj=>?_⟩
  rw [getG (by omega)]
  simpa using h3 j hj
omit [Inhabited α] in
theorem idxG_neg {l:List α} {p : α → Bool} (h:idxG l p = -1):l.filter (fun x=>!p x)=l:=by
 unfold idxG at h
 cases hf:l.findIdx? p with
 | some i=>rw [hf] at h;exact absurd h (by intro h;cases h)
 | none =>
  rw [List.findIdx?_eq_none_iff] at hf
  exact List.filter_eq_self.2 fun x hx=>by rw [hf x hx];rfl
omit [Inhabited α] in
theorem idxG_cases (l:List α) (p : α → Bool):idxG l p = -1∨∃ k,idxG l p=Int.ofNat k:=by
 unfold idxG
 split
 ·exact .inr ⟨_,rfl⟩
 ·exact .inl rfl
theorem takeG_succ (l:List α) {k:Nat} (h:k<l.length):l.take (k+1)=l.take k++[l.getD k default]:=by
 rw [List.take_add_one,getG h,List.getElem?_eq_getElem h];rfl
theorem filtG_succ (l:List α) (q : α → Bool) {k:Nat} (h:k<l.length):(l.take (k+1)).filter q=bif q (l.getD k default) then (l.take k).filter q++[l.getD k default] else (l.take k).filter q:=by
 rw [takeG_succ l h,List.filter_append]
 cases hq:q (l.getD k default) with
 | true=>rw [List.filter_cons_of_pos hq];rfl
 | false=>rw [List.filter_cons_of_neg (by rw [hq];decide)];simp
theorem takeG_keep {l:List α} {p : α → Bool}:∀ {k:Nat},k≤l.length→(∀ i,i<k→p (l.getD i default)=false)→(l.take k).filter (fun x=>!p x)=l.take k
 | 0,_,_=>rfl
 | k+1,h,hp=>by
  rw [filtG_succ l _ (by omega),takeG_keep (by omega) (fun i hi=>hp i (by omega)),hp k (by omega),takeG_succ l (by omega)];rfl
structure DelInv (l:List α) (p : α → Bool) (j i:Nat) (g:Nat→α):Prop where
 le:j≤l.length
 lt:i<j
 len:i=((l.take j).filter (fun x=>!p x)).length
 done:∀ q,q<i→g q=((l.take j).filter (fun x=>!p x)).getD q default
 rest:∀ q,j≤q→g q=l.getD q default
theorem DelInv.start {l:List α} {p : α → Bool} {k0:Nat} (h:k0<l.length∧p (l.getD k0 default)=true∧∀ i,i<k0→p (l.getD i default)=false):DelInv l p (k0+1) k0 (fun q=>l.getD q default):=by
 have e1:(l.take (k0+1)).filter (fun x=>!p x)=l.take k0:=by
  rw [filtG_succ l _ h.1,h.2.1,takeG_keep (by omega) h.2.2];rfl
 refine ⟨h.1,Nat.lt_succ_self _,?_,fun q hq=>?_,fun q _=>rfl⟩
 ·rw [e1,List.length_take];omega
 ·rw [e1]
  simp only [List.getD_eq_getElem?_getD]
  rw [List.getElem?_take,if_pos hq]
theorem DelInv.skip {l:List α} {p : α → Bool} {j i:Nat} {g:Nat→α} (h:DelInv l p j i g) (hj:j<l.length) (hp:p (l.getD j default)=true):DelInv l p (j+1) i g:=by
 have e1:(l.take (j+1)).filter (fun x=>!p x)=(l.take j).filter (fun x=>!p x):=by
  rw [filtG_succ l _ hj,hp];rfl
 exact ⟨hj,Nat.lt_succ_of_lt h.lt,by rw [e1];exact h.len,fun q hq=>by rw [e1];exact h.done q hq,fun q h1=>h.rest q (by omega)⟩
theorem DelInv.keep {l:List α} {p : α → Bool} {j i:Nat} {g:Nat→α} (h:DelInv l p j i g) (hj:j<l.length) (hp:p (l.getD j default)=false):DelInv l p (j+1) (i+1) (fun q=>if q=i then g j else g q):=by
 have e1:(l.take (j+1)).filter (fun x=>!p x)=(l.take j).filter (fun x=>!p x)++[l.getD j default]:=by
  rw [filtG_succ l _ hj,hp];rfl
 have hij:=h.lt
 refine ⟨hj,by omega,by rw [e1,List.length_append,←h.len];rfl,fun q hq=>?_,fun q h1=>?_⟩
 ·rw [e1]
  simp only [List.getD_eq_getElem?_getD]
  by_cases c:q=i
  ·subst c
   rw [if_pos rfl,List.getElem?_append_right (by rw [←h.len];exact Nat.le_refl _),←h.len,Nat.sub_self,h.rest j (Nat.le_refl _)];rfl
  ·rw [if_neg c,List.getElem?_append_left (by rw [←h.len];omega),h.done q (by omega),List.getD_eq_getElem?_getD]
 ·show (if q=i then _ else _)=_
  rw [if_neg (by omega),h.rest q (by omega)]
theorem DelInv.all {l:List α} {p : α → Bool} {i:Nat} {g:Nat→α} (h:DelInv l p l.length i g):i=(l.filter (fun x=>!p x)).length∧∀ q,q<i→g q=(l.filter (fun x=>!p x)).getD q default:=by
 have h1:=h.len
 have h2:=h.done
 rw [List.take_length] at h1 h2
 exact ⟨h1,h2⟩
end
theorem without1_ok (c:Copy) (id:Int):VP (sE r) 108 [.agg ((eCopy c).map .p),.p (.fp [.int .i64 id] 0)] (bv (c.id==id)):=by
 refine VP.of (fn:=Tryz.f108) tb_ok rfl (by kernel_rfl) rfl rfl rfl ?_
 refine VSt.run tb_ok false [] 200 rfl trivial ?_
 exact EndsP.mk rfl rfl rfl rfl
theorem without2_ok (c:Never) (id:Int):VP (sE r) 110 [.agg ((eNever c).map .p),.p (.fp [.int .i64 id] 0)] (bv (c.src==id||c.dst==id)):=by
 refine VP.of (fn:=Tryz.f110) tb_ok rfl (by kernel_rfl) rfl rfl rfl ?_
 refine VSt.run tb_ok false [] 200 rfl trivial ?_
 first | refine VSt.splitO 8 rfl (fun h=>?_) (fun h=>?_) | refine VSt.splitD 8 rfl (fun h=>?_) (fun h=>?_)
 ·refine VSt.run tb_ok false [] 200 rfl trivial ?_
  refine EndsP.mk rfl rfl rfl ?_
  show bv _=bv _
  rw [h];rfl
 ·refine VSt.run tb_ok false [] 200 rfl trivial ?_
  refine EndsP.mk rfl rfl rfl ?_
  show bv _=bv _
  rw [h];rfl
theorem idxNever_ok {b:Bool} {l:List Never} {f:Nat} {first cap:List AV} {p:Never→Bool} (hn:l.length<9223372036854775808) (hon:(AV.fn f first cap).only (olds [])=true) (hoc:∀ x,AV.onlys (olds []) (first++([.agg ((eNever x).map .p)]++cap))=true) (hf:∀ x,VP (sE r) f (first++([.agg ((eNever x).map .p)]++cap)) (bv (p x))) :
  VP (sE r) 131 [.p (eNevers b l),.fn f first cap] (iv (idxG l p)):=by
 refine VP.of (fn:=Tryz.f131) tb_ok rfl (by kernel_rfl) rfl rfl rfl ?_
 refine VSt.run tb_ok false [] 200 rfl trivial ?_
 refine VSt.rangeF tb_ok l.length (by omega) (fun _=>[(0,.p (eNevers b l)),(1,.fn f first cap)]) (fun _=>[]) (fun k=>∀ i,i<k→p (l.getD i default)=false) rfl rfl (fun _=>rfl) ?_ (fun i hi=>absurd hi (Nat.not_lt_zero i)) (fun k hk hp=>?_) (fun hp=>?_)
 ·(refine Vw.drop (by repeat (first | exact wf_nil | refine wf_back rfl rfl rfl ?_ | refine wf_cons rfl ‹_› (ren_only _ ‹_›) ?_)))
 ·refine VSt.run tb_ok false [] 200 rfl (⟨hk,rfl⟩) ?_
  refine VSt.pcall (hf (l.getD k default)) rfl rfl rfl rfl rfl rfl (hoc _) ?_
  refine VSt.run tb_ok false [] 200 rfl trivial ?_
  refine VSt.cond rfl (fun hc=>?_) (fun hc=>?_)
  ·refine VSt.run tb_ok false [] 200 rfl trivial ?_
   refine EndsP.mk rfl rfl rfl ?_
   rw [idxG_hit hk hc hp];rfl
  ·refine VSt.run tb_ok false [] 200 rfl trivial ?_
   refine ⟨by (refine Vw.drop (by repeat (first | exact wf_nil | refine wf_back rfl rfl rfl ?_ | refine wf_cons rfl ‹_› (ren_only _ ‹_›) ?_))),fun i hi=>?_⟩
   by_cases e:i=k
   ·subst e;exact hc
   ·exact hp i (by omega)
 ·refine VSt.run tb_ok false [] 200 rfl trivial ?_
  refine EndsP.mk rfl rfl rfl ?_
  rw [idxG_miss hp];rfl
theorem idxC_eq (l:List Copy) (p:Copy→Bool):idxC l p=idxG l p:=rfl
def isId (id:Int) (c:Copy):Bool:=c.id==id
def hasId (id:Int) (c:Never):Bool:=c.src==id||c.dst==id
theorem putCopy (g:Nat→Copy) (i j q:Nat):(bif Nat.beq q i then ppaste (eCopy (g i)) 0 (eCopy (g j)) else eCopy (g q))=eCopy (if q=i then g j else g q):=by
 by_cases h:q=i
 ·subst h;rw [if_pos rfl,Nat.beq_refl];rfl
 ·rw [if_neg h,beq_ne h];rfl
theorem delCopy_ok {nb:Bool} {l:List Copy} {id:Int} (hn:l.length≤1000) :
  VC (sE r) [0] 107 [.acc nb 0 2 l.length,.fn 108 [] [.p (.fp [.int .i64 id] 0)]] [(0,.acc l.length 2 (fCopies l) 44)]
   (fun a L=>(idxG l (isId id) = -1∧a = .acc nb 0 2 l.length∧L=[(0,.acc l.length 2 (fCopies l) 44)]) ∨
    (¬ idxG l (isId id) = -1∧∃ G:Nat→List PV,(l.filter (fun x=>!isId id x)).length<l.length∧(∀ q,q<(l.filter (fun x=>!isId id x)).length→G q=eCopy ((l.filter (fun x=>!isId id x)).getD q default))∧a = .sl 0 2 0 (l.filter (fun x=>!isId id x)).length l.length 0∧L=[(0,.arr l.length 2 G 44)])):=by
 refine VC.of (fn:=Tryz.f107) tb_ok rfl (by kernel_rfl) rfl rfl ?_
 refine VSt.run tb_ok false [] 200 rfl trivial ?_
 refine VSt.bcall (Vw.trans (Vw.sub' (F0:=[(8,.acc nb 0 2 l.length),(9,.fn 108 [] [.p (.fp [.int .i64 id] 0)])]) (subK (by repeat (first | exact sk_nil | refine sk_cons rfl ?_)))) (Vw.freezeA 0 rfl rfl ⟨Nat.le_refl _,rfl⟩)) rfl rfl rfl rfl rfl rfl rfl (idxCopy_ok (first:=[]) (cap:=[.p (.fp [.int .i64 id] 0)]) (p:=isId id) (by omega) rfl (fun _=>rfl) (fun x=>without1_ok x id)) rfl ?_
 refine VSt.run tb_ok false [] 200 rfl trivial ?_
 refine VSt.cond rfl (fun h=>?_) (fun h=>?_)
 ·have h:idxG l (isId id) = -1:=eq_of_beq h
  refine VSt.run tb_ok false [] 200 rfl trivial ?_
  exact ⟨rfl,_,[(0,0)],_,_,rfl,⟨rfl,rfl,wf_imp rfl rfl (AImp.refl _) wf_nil,_,rfl,LImp.refl _⟩,.inl ⟨h,rfl,rfl⟩⟩
 have h:¬ idxG l (isId id) = -1:=ne_of_beq_false h
 refine Exists.elim ((idxG_cases l (isId id)).resolve_left h) fun k0 hk0=>?_
 have hfst:=idxG_first hk0
 have i0:inR (Int.ofNat k0+1):=by unfold inR;simp only [Int.ofNat_eq_natCast];omega
 first | refine VSt.putO 5 (nv k0) rfl (iv_nv hk0) ?_ | refine VSt.putD 5 (nv k0) rfl (iv_nv hk0) ?_ | refine VSt.putC 5 (nv k0) rfl (iv_nv hk0) ?_
 refine VSt.run tb_ok false [] 200 rfl (i0) ?_
 refine VSt.loop (α :=Nat×Nat×(Nat→Copy)) (fun x F L=>DelInv l (isId id) x.1 x.2.1 x.2.2 ∧
   F=[(0,.acc nb 0 2 l.length),(1,.fn 108 [] [.p (.fp [.int .i64 id] 0)]),(5,nv x.2.1),(6,nv x.1)]∧L=[(0,.acc l.length 2 (fun q=>eCopy (x.2.2 q)) 44)]) (fun x=>l.length - x.1) (k0+1,k0,fun q=>l.getD q default) ?_ ⟨DelInv.start hfst,rfl,rfl⟩ ?_
 ·(refine Vw.sub' (subK (by repeat (first | exact sk_nil | refine sk_cons rfl ?_))))
 rintro ⟨j,i,g⟩ F L ⟨hI,rfl,rfl⟩
 have hI:DelInv l (isId id) j i g:=hI
 have h1:=hI.le
 have h2:=hI.lt
 refine VSt.run tb_ok false [] 200 rfl trivial ?_
 refine VSt.cond rfl (fun hc=>?_) (fun hc=>?_)
 ·have hj:j<l.length:=by have:=of_decide_eq_true hc;simp only [Int.ofNat_eq_natCast] at this;omega
  have ij:inR (Int.ofNat j+1):=by unfold inR;simp only [Int.ofNat_eq_natCast];omega
  have ii:inR (Int.ofNat i+1):=by unfold inR;simp only [Int.ofNat_eq_natCast];omega
  have eg:g j=l.getD j default:=hI.rest j (Nat.le_refl _)
  refine VSt.run tb_ok false [] 200 rfl (⟨hj,rfl,hj,rfl⟩) ?_
  first | refine VSt.pc rfl rfl rfl rfl rfl rfl rfl rfl ((without1_ok (g j) id)) ?_ | refine VSt.pcD rfl rfl rfl rfl rfl rfl rfl rfl ((without1_ok (g j) id)) ?_
  refine VSt.run tb_ok false [] 200 rfl trivial ?_
  refine VSt.cond rfl (fun hd=>?_) (fun hd=>?_)
  ·have hd:isId id (l.getD j default)=false:=by rw [←eg];exact (Bool.not_eq_true' _).mp hd
   refine VSt.run tb_ok false [] 200 rfl (⟨(show i<l.length by omega),rfl,(show i<l.length by omega),rfl,Nat.le_refl _,ii,ij⟩) ?_
   exact ⟨(j+1,i+1,fun q=>if q=i then g j else g q),_,_,Vw.trans (Vw.sub' (F0:=[(0,.acc nb 0 2 l.length),(1,.fn 108 [] [.p (.fp [.int .i64 id] 0)]),(5,nv (i+1)),(6,nv (j+1))]) (subK (by repeat (first | exact sk_nil | refine sk_cons rfl ?_)))) (Wk.vw (ps:=[(0,0)]) (F0:=[(0,.acc nb 0 2 l.length),(1,.fn 108 [] [.p (.fp [.int .i64 id] 0)]),(5,nv (i+1)),(6,nv (j+1))]) (L0:=[(0,.acc l.length 2 (fun q=>eCopy (if q=i then g j else g q)) 44)]) ⟨rfl,rfl,(by repeat (first | exact wf_nil | refine wf_back rfl rfl rfl ?_)),_,rfl,⟨rfl,BImp.acc rfl (fun q hq=>putCopy g i j q),trivial⟩⟩),⟨hI.keep hj hd,rfl,rfl⟩,by show l.length - (j+1)<l.length - j;omega⟩
  ·have hd:isId id (l.getD j default)=true:=by rw [←eg];exact (Bool.not_eq_false' _).mp hd
   refine VSt.run tb_ok false [] 200 rfl (ij) ?_
   exact ⟨(j+1,i,g),_,_,Wk.vw (ps:=[(0,0)]) (F0:=[(0,.acc nb 0 2 l.length),(1,.fn 108 [] [.p (.fp [.int .i64 id] 0)]),(5,nv i),(6,nv (j+1))]) (L0:=[(0,.acc l.length 2 (fun q=>eCopy (g q)) 44)]) ⟨rfl,rfl,(by repeat (first | exact wf_nil | refine wf_back rfl rfl rfl ?_)),_,rfl,LImp.refl _⟩,⟨hI.skip hj hd,rfl,rfl⟩,by show l.length - (j+1)<l.length - j;omega⟩
 ·have hj:j=l.length:=by have:=of_decide_eq_false hc;simp only [Int.ofNat_eq_natCast] at this;omega
  subst hj
  have ha:=hI.all
  have hpos:0<l.length:=by omega
  have h1':i≤l.length:=Nat.le_of_lt h2
  refine VSt.viewC (Wk.vw (ps:=[(0,0)]) (F0:=[(0,.sl 0 2 0 l.length l.length 0),(5,nv i)]) (L0:=[(0,.arr l.length 2 (fun q=>eCopy (g q)) 44)]) ⟨rfl,rfl,wf_imp rfl rfl (AImp.accSl hpos rfl rfl) (wf_back rfl rfl rfl wf_nil),_,rfl,⟨rfl,BImp.accArr hpos rfl (fun q hq=>rfl),trivial⟩⟩) ?_
  refine VSt.run tb_ok false [] 200 rfl (⟨h1',Nat.le_refl _,.inl h2,rfl,(by show 0+i+(l.length - i)≤l.length;omega),rfl,rfl,Nat.zero_le _,h1',.inr rfl,rfl⟩) ?_
  refine ⟨rfl,_,[(0,0)],_,_,rfl,⟨rfl,rfl,wf_imp rfl rfl (AImp.slE (by omega) (by omega)) wf_nil,_,rfl,LImp.refl _⟩,.inr ⟨h,_,by rw [←ha.1];exact h2,fun q hq=>?_,rfl,rfl⟩⟩
  rw [←ha.1] at hq
  show (bif Nat.ble (0+i) q&&Nat.blt q (0+i+(l.length - i)) then _ else eCopy (g q))=_
  rw [show Nat.ble (0+i) q=false from by rw [←Bool.not_eq_true];intro hb;have:=Nat.le_of_ble_eq_true hb;omega]
  rw [←ha.2 q hq];rfl
theorem putNever (g:Nat→Never) (i j q:Nat):(bif Nat.beq q i then ppaste (eNever (g i)) 0 (eNever (g j)) else eNever (g q))=eNever (if q=i then g j else g q):=by
 by_cases h:q=i
 ·subst h;rw [if_pos rfl,Nat.beq_refl];rfl
 ·rw [if_neg h,beq_ne h];rfl
theorem delNever_ok {nb:Bool} {l:List Never} {id:Int} (hn:l.length≤1000) :
  VC (sE r) [0] 109 [.acc nb 0 2 l.length,.fn 110 [] [.p (.fp [.int .i64 id] 0)]] [(0,.acc l.length 2 (fNevers l) 57)]
   (fun a L=>(idxG l (hasId id) = -1∧a = .acc nb 0 2 l.length∧L=[(0,.acc l.length 2 (fNevers l) 57)]) ∨
    (¬ idxG l (hasId id) = -1∧∃ G:Nat→List PV,(l.filter (fun x=>!hasId id x)).length<l.length∧(∀ q,q<(l.filter (fun x=>!hasId id x)).length→G q=eNever ((l.filter (fun x=>!hasId id x)).getD q default))∧a = .sl 0 2 0 (l.filter (fun x=>!hasId id x)).length l.length 0∧L=[(0,.arr l.length 2 G 57)])):=by
 refine VC.of (fn:=Tryz.f109) tb_ok rfl (by kernel_rfl) rfl rfl ?_
 refine VSt.run tb_ok false [] 200 rfl trivial ?_
 refine VSt.bcall (Vw.trans (Vw.sub' (F0:=[(8,.acc nb 0 2 l.length),(9,.fn 110 [] [.p (.fp [.int .i64 id] 0)])]) (subK (by repeat (first | exact sk_nil | refine sk_cons rfl ?_)))) (Vw.freezeA 0 rfl rfl ⟨Nat.le_refl _,rfl⟩)) rfl rfl rfl rfl rfl rfl rfl (idxNever_ok (first:=[]) (cap:=[.p (.fp [.int .i64 id] 0)]) (p:=hasId id) (by omega) rfl (fun _=>rfl) (fun x=>without2_ok x id)) rfl ?_
 refine VSt.run tb_ok false [] 200 rfl trivial ?_
 refine VSt.cond rfl (fun h=>?_) (fun h=>?_)
 ·have h:idxG l (hasId id) = -1:=eq_of_beq h
  refine VSt.run tb_ok false [] 200 rfl trivial ?_
  exact ⟨rfl,_,[(0,0)],_,_,rfl,⟨rfl,rfl,wf_imp rfl rfl (AImp.refl _) wf_nil,_,rfl,LImp.refl _⟩,.inl ⟨h,rfl,rfl⟩⟩
 have h:¬ idxG l (hasId id) = -1:=ne_of_beq_false h
 refine Exists.elim ((idxG_cases l (hasId id)).resolve_left h) fun k0 hk0=>?_
 have hfst:=idxG_first hk0
 have i0:inR (Int.ofNat k0+1):=by unfold inR;simp only [Int.ofNat_eq_natCast];omega
 first | refine VSt.putO 5 (nv k0) rfl (iv_nv hk0) ?_ | refine VSt.putD 5 (nv k0) rfl (iv_nv hk0) ?_ | refine VSt.putC 5 (nv k0) rfl (iv_nv hk0) ?_
 refine VSt.run tb_ok false [] 200 rfl (i0) ?_
 refine VSt.loop (α :=Nat×Nat×(Nat→Never)) (fun x F L=>DelInv l (hasId id) x.1 x.2.1 x.2.2 ∧
   F=[(0,.acc nb 0 2 l.length),(1,.fn 110 [] [.p (.fp [.int .i64 id] 0)]),(5,nv x.2.1),(6,nv x.1)]∧L=[(0,.acc l.length 2 (fun q=>eNever (x.2.2 q)) 57)]) (fun x=>l.length - x.1) (k0+1,k0,fun q=>l.getD q default) ?_ ⟨DelInv.start hfst,rfl,rfl⟩ ?_
 ·(refine Vw.sub' (subK (by repeat (first | exact sk_nil | refine sk_cons rfl ?_))))
 rintro ⟨j,i,g⟩ F L ⟨hI,rfl,rfl⟩
 have hI:DelInv l (hasId id) j i g:=hI
 have h1:=hI.le
 have h2:=hI.lt
 refine VSt.run tb_ok false [] 200 rfl trivial ?_
 refine VSt.cond rfl (fun hc=>?_) (fun hc=>?_)
 ·have hj:j<l.length:=by have:=of_decide_eq_true hc;simp only [Int.ofNat_eq_natCast] at this;omega
  have ij:inR (Int.ofNat j+1):=by unfold inR;simp only [Int.ofNat_eq_natCast];omega
  have ii:inR (Int.ofNat i+1):=by unfold inR;simp only [Int.ofNat_eq_natCast];omega
  have eg:g j=l.getD j default:=hI.rest j (Nat.le_refl _)
  refine VSt.run tb_ok false [] 200 rfl (⟨hj,rfl,hj,rfl⟩) ?_
  first | refine VSt.pc rfl rfl rfl rfl rfl rfl rfl rfl ((without2_ok (g j) id)) ?_ | refine VSt.pcD rfl rfl rfl rfl rfl rfl rfl rfl ((without2_ok (g j) id)) ?_
  refine VSt.run tb_ok false [] 200 rfl trivial ?_
  refine VSt.cond rfl (fun hd=>?_) (fun hd=>?_)
  ·have hd:hasId id (l.getD j default)=false:=by rw [←eg];exact (Bool.not_eq_true' _).mp hd
   refine VSt.run tb_ok false [] 200 rfl (⟨(show i<l.length by omega),rfl,(show i<l.length by omega),rfl,Nat.le_refl _,ii,ij⟩) ?_
   exact ⟨(j+1,i+1,fun q=>if q=i then g j else g q),_,_,Vw.trans (Vw.sub' (F0:=[(0,.acc nb 0 2 l.length),(1,.fn 110 [] [.p (.fp [.int .i64 id] 0)]),(5,nv (i+1)),(6,nv (j+1))]) (subK (by repeat (first | exact sk_nil | refine sk_cons rfl ?_)))) (Wk.vw (ps:=[(0,0)]) (F0:=[(0,.acc nb 0 2 l.length),(1,.fn 110 [] [.p (.fp [.int .i64 id] 0)]),(5,nv (i+1)),(6,nv (j+1))]) (L0:=[(0,.acc l.length 2 (fun q=>eNever (if q=i then g j else g q)) 57)]) ⟨rfl,rfl,(by repeat (first | exact wf_nil | refine wf_back rfl rfl rfl ?_)),_,rfl,⟨rfl,BImp.acc rfl (fun q hq=>putNever g i j q),trivial⟩⟩),⟨hI.keep hj hd,rfl,rfl⟩,by show l.length - (j+1)<l.length - j;omega⟩
  ·have hd:hasId id (l.getD j default)=true:=by rw [←eg];exact (Bool.not_eq_false' _).mp hd
   refine VSt.run tb_ok false [] 200 rfl (ij) ?_
   exact ⟨(j+1,i,g),_,_,Wk.vw (ps:=[(0,0)]) (F0:=[(0,.acc nb 0 2 l.length),(1,.fn 110 [] [.p (.fp [.int .i64 id] 0)]),(5,nv i),(6,nv (j+1))]) (L0:=[(0,.acc l.length 2 (fun q=>eNever (g q)) 57)]) ⟨rfl,rfl,(by repeat (first | exact wf_nil | refine wf_back rfl rfl rfl ?_)),_,rfl,LImp.refl _⟩,⟨hI.skip hj hd,rfl,rfl⟩,by show l.length - (j+1)<l.length - j;omega⟩
 ·have hj:j=l.length:=by have:=of_decide_eq_false hc;simp only [Int.ofNat_eq_natCast] at this;omega
  subst hj
  have ha:=hI.all
  have hpos:0<l.length:=by omega
  have h1':i≤l.length:=Nat.le_of_lt h2
  refine VSt.viewC (Wk.vw (ps:=[(0,0)]) (F0:=[(0,.sl 0 2 0 l.length l.length 0),(5,nv i)]) (L0:=[(0,.arr l.length 2 (fun q=>eNever (g q)) 57)]) ⟨rfl,rfl,wf_imp rfl rfl (AImp.accSl hpos rfl rfl) (wf_back rfl rfl rfl wf_nil),_,rfl,⟨rfl,BImp.accArr hpos rfl (fun q hq=>rfl),trivial⟩⟩) ?_
  refine VSt.run tb_ok false [] 200 rfl (⟨h1',Nat.le_refl _,.inl h2,rfl,(by show 0+i+(l.length - i)≤l.length;omega),rfl,rfl,Nat.zero_le _,h1',.inr rfl,rfl⟩) ?_
  refine ⟨rfl,_,[(0,0)],_,_,rfl,⟨rfl,rfl,wf_imp rfl rfl (AImp.slE (by omega) (by omega)) wf_nil,_,rfl,LImp.refl _⟩,.inr ⟨h,_,by rw [←ha.1];exact h2,fun q hq=>?_,rfl,rfl⟩⟩
  rw [←ha.1] at hq
  show (bif Nat.ble (0+i) q&&Nat.blt q (0+i+(l.length - i)) then _ else eNever (g q))=_
  rw [show Nat.ble (0+i) q=false from by rw [←Bool.not_eq_true];intro hb;have:=Nat.le_of_ble_eq_true hb;omega]
  rw [←ha.2 q hq];rfl
end Go.Proofs.YtncpeobcgmkkbaaGreat
/- Walks: a stem without a copy. -/
set_option maxRecDepth 100000
namespace Go.Proofs.YtncpeobcgmkkbaaGreat
variable {r:Tr (List Value×TypeId)}
theorem lessC_filter (s:Stem) (id:Int):∀ k,k≤s.copies.length→lessC s id k=(s.copies.take k).filter (fun x=>!isId id x)
 | 0,_=>rfl
 | k+1,h=>by
  rw [filtG_succ s.copies _ (by omega),←lessC_filter s id k (by omega)];rfl
theorem lessN_filter (s:Stem) (id:Int):∀ k,k≤s.never.length→lessN s id k=(s.never.take k).filter (fun x=>!hasId id x)
 | 0,_=>rfl
 | k+1,h=>by
  rw [filtG_succ s.never _ (by omega),←lessN_filter s id k (by omega),lessN,hasId,Bool.not_or]
theorem lessC_all (s:Stem) (id:Int):lessC s id s.copies.length=s.copies.filter (fun x=>!isId id x):=by
 rw [lessC_filter s id _ (Nat.le_refl _),List.take_length]
theorem lessN_all (s:Stem) (id:Int):lessN s id s.never.length=s.never.filter (fun x=>!hasId id x):=by
 rw [lessN_filter s id _ (Nat.le_refl _),List.take_length]
def lessP (s:Stem) (id:Int):Stem:=⟨false,lessC s id s.copies.length,s.costs,if idxG s.never (hasId id) = -1 then s.nn else false,lessN s id s.never.length⟩
theorem without_ok {s:Stem} (hf:s.Flags) (hv:s.Valid) (id:Int) (hid:¬ idxG s.copies (isId id) = -1):VP (sE r) 77 [.agg ((eStem s).map .p),iv id] (.agg ((eStem (lessP s id)).map .p)):=by
 refine VP.of (fn:=Tryz.f77) tb_ok rfl (by kernel_rfl) rfl rfl rfl ?_
 refine VSt.run tb_ok false [] 200 rfl trivial ?_
 refine VSt.cc [] rfl rfl rfl rfl rfl rfl rfl rfl rfl rfl rfl (copied_ok hf hv) ?_
 rintro a L' ⟨rfl,rfl⟩
 refine VSt.run tb_ok false [] 200 rfl trivial ?_
 refine VSt.viewO (Wk.vw (ps:=[(1,1),(2,2),(3,3),(4,4),(5,5)]) (F0:=[(3,.ref 1 0),(4,.ref 2 0),(5,.ref 5 0),(9,.acc true 4 2 s.copies.length),(10,.fn 108 [] [.ref 1 0])])
  (L0:=[(1,.cells [iv id] 3),(2,zeroS),(3,.acc s.never.length 2 (fNevers s.never) 57),(4,.acc s.copies.length 2 (fCopies s.copies) 44),(5,.cells [.acc true 4 2 s.copies.length,iv s.costs.lose,iv s.costs.gain,iv s.costs.like,iv s.costs.turn,.acc s.nn 3 2 s.never.length] 27)])
  ⟨rfl,rfl,(by repeat (first | exact wf_nil | refine wf_back rfl rfl rfl ?_)),_,rfl,LImp.refl _⟩) ?_
 refine VSt.viewO (Vw.freezeC 1 [.int .i64 id] rfl rfl) ?_
 refine VSt.cc [(0,4)] rfl rfl rfl rfl rfl rfl rfl rfl rfl rfl rfl (delCopy_ok (id:=id) (by have:=hv.c;omega)) ?_
 rintro a L' (⟨h,_⟩ | ⟨_,G,hm,hG,rfl,rfl⟩)
 ·exact absurd h hid
 refine VSt.run tb_ok false [] 200 rfl trivial ?_
 refine VSt.viewO (Wk.vw (ps:=[(2,2),(3,3),(4,4),(5,5)]) (F0:=[(4,.ref 2 0),(5,.ref 5 0),(14,.acc s.nn 3 2 s.never.length),(15,.fn 110 [] [.p (.fp [.int .i64 id] 0)])])
  (L0:=[(2,zeroS),(3,.acc s.never.length 2 (fNevers s.never) 57),(4,.arr s.copies.length 2 G 44),(5,.cells [.sl 4 2 0 (s.copies.filter (fun x=>!isId id x)).length s.copies.length 0,iv s.costs.lose,iv s.costs.gain,iv s.costs.like,iv s.costs.turn,.acc s.nn 3 2 s.never.length] 27)])
  ⟨rfl,rfl,(by repeat (first | exact wf_nil | refine wf_back rfl rfl rfl ?_)),_,rfl,LImp.refl _⟩) ?_
 have hm':=Nat.le_of_lt hm
 refine VSt.viewO (Vw.freeze 4 rfl rfl ⟨by rw [Nat.zero_add];exact hm',hm',rfl⟩) ?_
 refine VSt.cc [(0,3)] rfl rfl rfl rfl rfl rfl rfl rfl rfl rfl rfl (delNever_ok (id:=id) (by have:=hv.n;omega)) ?_
 have hC:AImp (.p (.lst 44 false (s.copies.filter (fun x=>!isId id x)).length fun k=>G (0+k))) (.p (eCopies false (lessC s id s.copies.length))):=by
  rw [lessC_all]
  exact AImp.lst fun k hk=>by rw [Nat.zero_add];exact hG k hk
 rintro a L' (⟨h,rfl,rfl⟩ | ⟨h,G2,hm2,hG2,rfl,rfl⟩)
 ·refine VSt.viewO (Wk.vw (ps:=[(2,2),(3,3),(5,5)]) (F0:=[(4,.ref 2 0),(5,.ref 5 0),(16,.acc s.nn 3 2 s.never.length)])
   (L0:=[(2,zeroS),(3,.acc s.never.length 2 (fNevers s.never) 57),(5,.cells [.p (eCopies false (lessC s id s.copies.length)),iv s.costs.lose,iv s.costs.gain,iv s.costs.like,iv s.costs.turn,.acc s.nn 3 2 s.never.length] 27)])
   ⟨rfl,rfl,(by repeat (first | exact wf_nil | refine wf_back rfl rfl rfl ?_)),_,rfl,⟨rfl,BImp.refl _,rfl,BImp.refl _,rfl,BImp.cells ⟨hC,AImp.refl _,AImp.refl _,AImp.refl _,AImp.refl _,AImp.refl _,trivial⟩,trivial⟩⟩) ?_
  refine VSt.viewO (Vw.freezeA 3 rfl rfl ⟨Nat.le_refl _,rfl,Nat.le_refl _,rfl⟩) ?_
  refine VSt.run tb_ok false [] 200 rfl trivial ?_
  refine ⟨rfl,_,rfl,rfl,?_⟩
  refine AImp.agg ⟨AImp.refl _,AImp.refl _,AImp.refl _,AImp.refl _,AImp.refl _,?_,trivial⟩
  have e:(lessP s id).never=s.never:=by
   show lessN s id s.never.length=_
   rw [lessN_all];exact idxG_neg h
  have e2:(lessP s id).nn=s.nn:=if_pos h
  show AImp (.p (.lst _ (s.nn&&Nat.beq s.never.length 0) _ _)) (.p (eNevers (lessP s id).nn (lessP s id).never))
  rw [e,e2,nn_eq hf.n]
  exact AImp.refl _
 ·refine VSt.viewO (Wk.vw (ps:=[(2,2),(3,3),(5,5)]) (F0:=[(4,.ref 2 0),(5,.ref 5 0),(16,.sl 3 2 0 (s.never.filter (fun x=>!hasId id x)).length s.never.length 0)])
   (L0:=[(2,zeroS),(3,.arr s.never.length 2 G2 57),(5,.cells [.p (eCopies false (lessC s id s.copies.length)),iv s.costs.lose,iv s.costs.gain,iv s.costs.like,iv s.costs.turn,.acc s.nn 3 2 s.never.length] 27)])
   ⟨rfl,rfl,(by repeat (first | exact wf_nil | refine wf_back rfl rfl rfl ?_)),_,rfl,⟨rfl,BImp.refl _,rfl,BImp.refl _,rfl,BImp.cells ⟨hC,AImp.refl _,AImp.refl _,AImp.refl _,AImp.refl _,AImp.refl _,trivial⟩,trivial⟩⟩) ?_
  have hm2':=Nat.le_of_lt hm2
  refine VSt.viewO (Vw.freeze 3 rfl rfl ⟨by rw [Nat.zero_add];exact hm2',hm2',rfl,Nat.le_refl _,rfl⟩) ?_
  refine VSt.run tb_ok false [] 200 rfl trivial ?_
  refine ⟨rfl,_,rfl,rfl,?_⟩
  refine AImp.agg ⟨AImp.refl _,AImp.refl _,AImp.refl _,AImp.refl _,AImp.refl _,?_,trivial⟩
  have e:(lessP s id).never=s.never.filter (fun x=>!hasId id x):=lessN_all s id
  have e2:(lessP s id).nn=false:=if_neg h
  show AImp _ (.p (eNevers (lessP s id).nn (lessP s id).never))
  rw [e,e2]
  exact AImp.lst fun k hk=>by rw [Nat.zero_add];exact hG2 k hk
theorem place_idx (s:Stem) (id:Int):place s id=idxG s.copies (isId id):=rfl
end Go.Proofs.YtncpeobcgmkkbaaGreat
/- Walks: the law of checks. -/
set_option maxRecDepth 100000
namespace Go.Proofs.YtncpeobcgmkkbaaGreat
variable {r:Tr (List Value×TypeId)}
theorem VP.hook {E:Env} {f:FuncId} (hk:hookL E f []=true):VP E f [] (bv true) :=
 ⟨rfl,fun S Z j vs hS hv hl=>by
  cases hv
  exact ⟨1,.bool true,S,fun m hm=>by
   obtain ⟨k,rfl,_⟩:=le_succ_ex hm
   show bf (hookL E f []) _ _=_
   rw [hk];rfl,bv true,[],Z,j,hS,.p (.bool true),Ex.refl _ _ _,hl,Stay.refl _ _,rfl,rfl⟩⟩
theorem Stem.Eqv.refl (s:Stem):s.Eqv s:=⟨rfl,rfl,rfl,fun k _=>⟨rfl,rfl⟩,fun k _=>rfl⟩
end Go.Proofs.YtncpeobcgmkkbaaGreat
