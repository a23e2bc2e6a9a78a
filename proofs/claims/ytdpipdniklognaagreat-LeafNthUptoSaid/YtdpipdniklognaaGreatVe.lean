/- The program's LeafNth returns true for all numbers that describe a book and all lists of Ids, without an exception and without changing its arguments: a part of the proof. -/
import Derived.Test.YtdpipdniklognaaGreatVd
import Derived.ChangeSame
import Derived.Carry
import Derived.Handed
import Derived.JoinedCond
set_option linter.all false
/- The lift: every reading of a plain type is laid out. -/
set_option maxRecDepth 100000
namespace Go.Proofs.YtdpipdniklognaaGreat
section
section
variable {H:Type} {enc:TypeId×Value→H} {P:Program} {E:Env} {W:World}
theorem z88 (n s:Nat):((List.range n).map fun _=>s).sum=n*s:=by
 induction n with
 | zero=>simp
 | succ n ih=>rw [List.range_succ,List.map_append,List.sum_append,ih];simp [Nat.succ_mul]
theorem z4U {α : Type} (l:List α) (s:Nat) (k:Nat) (h:k≤l.length):((l.map fun _=>s).take k).sum=k*s:=by
 induction k generalizing l with
 | zero=>simp
 | succ k ih =>
  cases l with
  | nil=>simp at h
  | cons a l=>simp only [List.map_cons,List.take_succ_cons,List.sum_cons,ih l (by simpa using h),Nat.succ_mul];omega
theorem zc5 (hP:TiP P E) {m:Nat} (one:∀ (t:TypeId) (i:LTy) (c:List Value) (L:List Seg),E.ti.get t=some i→sup E m t=true→Valid E W L→(∃ n d,DataW.trod enc P W 0 (fun _=>true) true n t c=some d)→Lays E W L c (fun q=>q.length=i.size∧Sh E m t q))
  (ts:List TypeId) (hts:∀ t∈ts,∃ i,E.ti.get t=some i∧sup E m t=true) (cs:List Value) (hl:cs.length=(ts.map P.cellsOf).sum) (L:List Seg) (hL:Valid E W L)
  (hc:∀ k t,ts[k]? = some t→∃ n d,DataW.trod enc P W 0 (fun _=>true) true n t ((cs.drop ((ts.map P.cellsOf).take k).sum).take (P.cellsOf t))=some d) :
  Lays E W L cs (fun q=>q.length=(ts.map P.cellsOf).sum∧∀ k t,ts[k]? = some t→Sh E m t ((q.drop ((ts.map P.cellsOf).take k).sum).take (P.cellsOf t))):=by
 have hget:∀ k (p:TypeId×List Value),(ts.zip (zb4 (ts.map P.cellsOf) cs))[k]? = some p→ts[k]? = some p.1∧p.2=(cs.drop ((ts.map P.cellsOf).take k).sum).take (P.cellsOf p.1):=by
  intro k p hp
  rw [List.getElem?_zip_eq_some] at hp
  obtain ⟨h1,h2⟩:=hp
  refine ⟨h1,?_⟩
  rw [zb3 _ _ k (P.cellsOf p.1) (by rw [List.getElem?_map,h1];rfl)] at h2
  exact (Option.some.inj h2).symm
 have hlen:∀ k t,ts[k]? = some t→((cs.drop ((ts.map P.cellsOf).take k).sum).take (P.cellsOf t)).length=P.cellsOf t:=by
  intro k t hk
  have h1:((ts.map P.cellsOf).take (k+1)).sum=((ts.map P.cellsOf).take k).sum+P.cellsOf t:=by
   rw [List.take_add_one,List.sum_append,List.getElem?_map,hk];simp
  have h2:((ts.map P.cellsOf).take (k+1)).sum≤(ts.map P.cellsOf).sum:=by
   conv=>rhs;rw [←List.take_append_drop (k+1) (ts.map P.cellsOf),List.sum_append]
   omega
  simp;omega
 obtain ⟨M,cs',qs,k1,k2,k3,parts,k4,k5,k6⟩:=zf6 (enc:=enc) (Sz:=P.cellsOf) (O:=fun t=>∃ i,E.ti.get t=some i∧sup E m t=true) (Q:=fun t q=>Sh E m t q) (P:=P) (E:=E) (W:=W) (fun t c L hL hcl ht ⟨i,hi,hs⟩=>by
   obtain ⟨M,cs',qs,q1,q2,q3,q4,q5⟩:=one t i c L hi hs hL ht
   exact ⟨M,cs',qs,q1,q2,q3,q4.trans (hP.cells hi).symm,q5⟩) (ts.zip (zb4 (ts.map P.cellsOf) cs)) L hL (fun p hp=>by
   obtain ⟨k,hk⟩:=List.mem_iff_getElem?.1 hp
   obtain ⟨h1,h2⟩:=hget k p hk
   rw [h2]
   exact ⟨hts _ (List.mem_of_getElem? h1),hlen k p.1 h1,hc k p.1 h1⟩)
 have hzl:(ts.zip (zb4 (ts.map P.cellsOf) cs)).length=ts.length:=by simp [z5n]
 have hfl:(ts.zip (zb4 (ts.map P.cellsOf) cs)).flatMap (·.2)=cs:=by
  rw [List.flatMap_def,List.map_snd_zip (by simp [z5n])]
  exact z7j _ _ hl
 rw [hfl] at k2
 have hpl:parts.map List.length=ts.map P.cellsOf:=by
  apply List.ext_getElem?
  intro i
  rw [List.getElem?_map,List.getElem?_map]
  cases hi:ts[i]? with
  | none =>
   have:parts[i]? = none:=by
    rw [List.getElem?_eq_none_iff] at hi ⊢;omega
   rw [this];rfl
  | some t =>
   have hil:=(List.getElem?_eq_some_iff.1 hi).1
   have hz:(ts.zip (zb4 (ts.map P.cellsOf) cs))[i]? = some ((ts.zip (zb4 (ts.map P.cellsOf) cs))[i]'(by omega)):=List.getElem?_eq_getElem _
   obtain ⟨q,h1,h2,_⟩:=k6 i _ hz
   obtain ⟨h3,_⟩:=hget i _ hz
   rw [hi] at h3
   rw [h1,Option.some.inj h3]
   show some q.length=_
   rw [h2];rfl
 refine ⟨M,cs',qs,k1,k2,k3,?_,fun k t hk=>?_⟩
 ·rw [k4,List.length_flatten,hpl]
 ·have hil:=(List.getElem?_eq_some_iff.1 hk).1
  have hz:(ts.zip (zb4 (ts.map P.cellsOf) cs))[k]? = some ((ts.zip (zb4 (ts.map P.cellsOf) cs))[k]'(by omega)):=List.getElem?_eq_getElem _
  obtain ⟨q,h1,h2,h4⟩:=k6 k _ hz
  obtain ⟨h3,_⟩:=hget k _ hz
  rw [hk] at h3
  have e:=Option.some.inj h3
  rw [←e] at h4 h2
  have h5:=za0 parts
  rw [hpl,←k4] at h5
  have h6:=zb3 (ts.map P.cellsOf) qs k (P.cellsOf t) (by rw [List.getElem?_map,hk];rfl)
  rw [h5,h1] at h6
  rw [←Option.some.inj h6];exact h4
theorem cell_of {W:World} {a:Addr} {v:Value} (h:W.cell? a=some v):a.spot=none∧∃ c e fr,W.heap[a.block]? = some (.cells c e fr)∧c[a.off]? = some v:=by
 unfold World.cell? at h
 split at h
 ·rename_i c e fr hb
  split at h
  ·cases h
  ·rename_i hs
   refine ⟨?_,c,e,fr,hb,h⟩
   cases hsp:a.spot with
   | none=>rfl
   | some _=>rw [hsp] at hs;simp at hs
 ·cases h
theorem zf1 {α β : Type} {f : α → Option β}:∀ {l:List α} {r:List β},l.mapM f=some r→r.length=l.length∧∀ (i:Nat) (a : α),l[i]? = some a→∃ b : β,f a=some b∧r[i]? = some b
 | [],r,h=>by simp at h;subst h;exact ⟨rfl,fun i a h=>by simp at h⟩
 | a::l,r,h=>by
  simp only [List.mapM_cons,Option.pure_def,Option.bind_eq_bind,Option.bind_eq_some_iff] at h
  obtain ⟨b,hb,r',hr,h1⟩:=h
  cases h1
  obtain ⟨h2,h3⟩:=zf1 hr
  refine ⟨by simp [h2],fun i x hx=>?_⟩
  cases i with
  | zero=>simp at hx;subst hx;exact ⟨b,hb,by simp⟩
  | succ i=>simp at hx;simpa using h3 i x hx
theorem z7Q {W:World} {a:Addr} {n:Nat} {l:List Value} (h:W.cells? 0 a n=some l):l.length=n∧∀ i v,l[i]? = some v→W.cell? (a.add i)=some v:=by
 unfold World.cells? at h
 rw [if_pos (yu _)] at h
 obtain ⟨h1,h2⟩:=zf1 h
 rw [List.length_range] at h1
 refine ⟨h1,fun i v hv=>?_⟩
 have hi:i<n:=by rw [←h1];exact (List.getElem?_eq_some_iff.1 hv).1
 obtain ⟨b,h3,h4⟩:=h2 i i (List.getElem?_range hi)
 rw [hv] at h4;cases h4;exact h3
theorem z4l (a:Addr) (n:Nat):(a.add n).off=a.off+n∧(a.add n).block=a.block:=by
 unfold Addr.add
 split
 ·rename_i h;subst h;exact ⟨rfl,rfl⟩
 ·exact ⟨rfl,rfl⟩
theorem zga {m sz:Nat} {e:TypeId} {g:LTy} (hg:E.ti.get e=some g) (hsz:g.size=sz) (one:∀ (c:List Value) (L:List Seg),Valid E W L→(∃ n d,DataW.trod enc P W 0 (fun _=>true) true n e c=some d)→Lays E W L c (fun q=>q.length=g.size∧Sh E m e q))
  {len:Nat} {el:Nat→List Value} (hel:∀ i,i<len→(el i).length=sz∧∃ n d,DataW.trod enc P W 0 (fun _=>true) true n e (el i)=some d):∀ k,k≤len→∀ L,Valid E W L →
  ∃ (M:List Seg) (acc:List Value) (f:Nat→List PV),Valid E W (M++L)∧acc.length=k*sz∧Yh (jOf (M++L)) acc ((List.range k).flatMap el)∧∀ i,i<k→∃ gi:List Value,cut acc (i*sz) sz=some gi∧PL E (M++L) (f i) gi∧Sh E m e (f i):=by
 intro k
 induction k with
 | zero=>intro _ L hL;exact ⟨[],[],fun _=>[],hL,by simp,.nil,fun i hi=>by omega⟩
 | succ k ih =>
  intro hk L hL
  obtain ⟨M,acc,f,h1,h2,h3,h4⟩:=ih (by omega) L hL
  obtain ⟨h5,h6⟩:=hel k (by omega)
  obtain ⟨M2,c2,q2,k1,k2,k3,k4,k5⟩:=one (el k) (M++L) h1 h6
  have hc2:c2.length=sz:=by rw [k2.length,h5]
  refine ⟨M2++M,acc++c2,fun i=>if i=k then q2 else f i,by rw [List.append_assoc];exact k1,by rw [List.length_append,h2,hc2,Nat.succ_mul],?_,fun i hi=>?_⟩
  ·rw [List.append_assoc,List.range_succ,List.flatMap_append]
   refine (h3.mono (z9G M2 (M++L))).app ?_
   simpa using k2
  ·by_cases e1:i=k
   ·subst e1
    refine ⟨c2,?_,by simp only [if_pos];rw [List.append_assoc];exact k3,by simp only [if_pos];exact k5⟩
    have:=z1z (a:=acc) (b:=c2) (x:=0) (n:=sz) (r:=c2) (by have:=z4h c2;rw [hc2] at this;exact this)
    rw [h2,Nat.add_zero] at this;exact this
   ·obtain ⟨gi,m1,m2,m3⟩:=h4 i (by omega)
    refine ⟨gi,z1X m1,by simp only [if_neg e1];rw [List.append_assoc];exact m2.mono M2,by simp only [if_neg e1];exact m3⟩
theorem lays (hP:TiP P E) (hW:0<W.heap.size):∀ (m:Nat) (t:TypeId) (i:LTy) (cs:List Value) (L:List Seg),E.ti.get t=some i→sup E m t=true→Valid E W L→(∃ n d,DataW.trod enc P W 0 (fun _=>true) true n t cs=some d)→Lays E W L cs (fun q=>q.length=i.size∧Sh E m t q)
 | 0,t,i,cs,L,hi,hs,_,_=>by cases hs
 | m+1,t,i,cs,L,hi,hs,hL,⟨n,d,hd⟩=>by
  have hund:=(hP.ti t i hi).und
  have hcell:=hP.cells hi
  have ih:=lays hP hW m
  unfold sup at hs
  rw [hi] at hs
  simp only at hs
  unfold Sh
  rw [hi]
  simp only
  cases hdd:i.desc with
  | bool =>
   rw [hdd] at hs hund
   obtain ⟨b,rfl,_⟩:=DataW.trod_bool hund hd
   exact ⟨[],[.bool b],[.bool b],hL,.cons (.bool _) .nil,.cons (.bool _) .nil,by simp [zm hs],b,rfl⟩
  | int k =>
   rw [hdd] at hs hund
   obtain ⟨x,rfl,_,hwf⟩:=DataW.trod_int hund hd
   simp only [Lit.wf,yw,decide_eq_true_eq] at hwf
   exact ⟨[],[.int k x],[.int k x],hL,.cons (.int _ _) .nil,.cons (.int _ _) .nil,by simp [zm hs],x,rfl,hwf.1,hwf.2⟩
  | string =>
   rw [hdd] at hs hund
   obtain ⟨s,rfl,_,hl⟩:=DataW.trod_string hund hd
   exact ⟨[],[.string s],[.str s],hL,.cons (.string _) .nil,.cons (.str _) .nil,by simp [zm hs],s,rfl,hl⟩
  | struct fs =>
   rw [hdd] at hs hund
   simp only [yw] at hs
   obtain ⟨h1,h2⟩:=hs
   split at h1
   ·rename_i mm hmm
    obtain ⟨h3,h4⟩:=z98 hP hmm
    obtain ⟨xs,n',rfl,_,h5,h6,h7⟩:=DataW.trod_struct hund hd
    have hsum:(fs.toList.map fun f=>P.cellsOf f.type).sum=i.size:=by have:=zm h1;omega
    have hmap:(fs.toList.map (·.type)).map P.cellsOf=fs.toList.map fun f=>P.cellsOf f.type:=by simp
    obtain ⟨M,cs',qs,k1,k2,k3,k4,k5⟩:=zc5 (enc:=enc) (m:=m) hP ih (fs.toList.map (·.type)) (fun t ht=>by
     obtain ⟨f,hf,rfl⟩:=List.mem_map.1 ht
     obtain ⟨j,hj⟩:=List.mem_iff_getElem?.1 hf
     obtain ⟨g,hg,_⟩:=h4 j f hj
     exact ⟨g,hg,List.all_eq_true.1 h2 f hf⟩) cs (by rw [hmap,hsum,h5,hcell]) L hL (fun k t hk=>by
     rw [List.getElem?_map] at hk
     cases hf:fs.toList[k]? with
     | none=>rw [hf] at hk;cases hk
     | some f =>
      rw [hf] at hk;cases hk
      obtain ⟨_,_,hoff⟩:=h4 k f hf
      have h8:=h7 k f (by rw [←Array.getElem?_toList];exact hf)
      rw [hmap]
      rw [Nat.zero_add] at hoff
      rw [←hoff]
      have:k<xs.length:=by rw [h6,←Array.length_toList];exact (List.getElem?_eq_some_iff.1 hf).1
      exact ⟨n',xs[k],h8.trans (List.getElem?_eq_getElem this)⟩)
    refine ⟨M,cs',qs,k1,k2,k3,by rw [k4,hmap,hsum],by rw [k4,hmap,hsum],fun f hf=>?_⟩
    obtain ⟨k,hk⟩:=List.mem_iff_getElem?.1 hf
    obtain ⟨g,hg,hoff⟩:=h4 k f hk
    refine ⟨g,hg,?_⟩
    have h8:=k5 k f.type (by rw [List.getElem?_map,hk];rfl)
    rw [hmap] at h8
    rw [Nat.zero_add] at hoff
    rw [hoff,←hP.cells hg];exact h8
   ·cases h1
  | array na e =>
   rw [hdd] at hs hund
   simp only [yw] at hs
   obtain ⟨h1,h2⟩:=hs
   split at h1
   ·rename_i g hg
    have hsz:=zm h1
    have hcg:=hP.cells hg
    obtain ⟨xs,n',rfl,_,h5,h6,h7⟩:=DataW.trod_array hund hd
    have hmap:((List.range na).map fun _=>e).map P.cellsOf=(List.range na).map fun _=>g.size:=by simp [hcg]
    obtain ⟨M,cs',qs,k1,k2,k3,k4,k5⟩:=zc5 (enc:=enc) (m:=m) hP ih ((List.range na).map fun _=>e) (fun t ht=>by
     obtain ⟨_,_,rfl⟩:=List.mem_map.1 ht
     exact ⟨g,hg,h2⟩) cs (by rw [hmap,z88,h5,hcell,hsz]) L hL (fun k t hk=>by
     rw [List.getElem?_map] at hk
     have hkn:k<na:=by
      by_cases h:k<na
      ·exact h
      ·rw [List.getElem?_eq_none (by simp;omega)] at hk;cases hk
     rw [List.getElem?_range hkn] at hk;cases hk
     rw [hmap,z4U _ _ _ (by simp;omega)]
     have h8:=h7 k hkn
     rw [hcg] at h8 ⊢
     have:k<xs.length:=by omega
     exact ⟨n',xs[k],h8.trans (List.getElem?_eq_getElem this)⟩)
    refine ⟨M,cs',qs,k1,k2,k3,by rw [k4,hmap,z88,hsz],by rw [k4,hmap,z88,hsz],g,hg,fun k hk=>?_⟩
    have h8:=k5 k e (by rw [List.getElem?_map,List.getElem?_range hk];rfl)
    rw [hmap,z4U _ _ _ (by simp;omega),hcg] at h8
    exact h8
   ·cases h1
  | slice e =>
   rw [hdd] at hs hund
   simp only [yw] at hs
   obtain ⟨h0,h1,h2⟩:=hs
   split at h1
   ·rename_i g hg
    have hgp:=z0w h1
    have hcg:=hP.cells hg
    rcases DataW.trod_slice hund hd with ⟨rfl,_⟩ | ⟨a,len,cap,elems,rest,n',rfl,rfl,_,_,hlc,hcm,hel,helem,hrest,_⟩
    ·exact ⟨[],[.slice none 0 0],[.lst e true 0 fun _=>[]],hL,.cons .nilSlice .nil,.cons (.nil _ _) .nil,by simp [zm h0],true,0,_,rfl,fun _=>rfl,yu _,fun k hk=>by omega⟩
    ·-- the elements' cells
     have hex:∀ k,k<cap→∃ l,W.cells? 0 (a.add (k*g.size)) g.size=some l:=by
      intro k hk
      by_cases hkl:k<len
      ·have h3:=helem k hkl
       rw [hcg] at h3
       have:k<elems.length:=by omega
       rw [List.getElem?_eq_getElem this] at h3
       obtain ⟨l,h4,_⟩:=Option.bind_eq_some_iff.1 h3
       exact ⟨l,h4⟩
      ·obtain ⟨h3,h4⟩:=hrest rfl
       have h5:=h4 (k - len) (by omega)
       rw [show len+(k - len)=k by omega,hcg] at h5
       have:k - len<rest.length:=by omega
       rw [List.getElem?_eq_getElem this] at h5
       obtain ⟨l,h6,_⟩:=Option.bind_eq_some_iff.1 h5
       exact ⟨l,h6⟩
     have hblk:0<cap→a.spot=none∧∃ c e' fr,W.heap[a.block]? = some (.cells c e' fr):=by
      intro hc
      obtain ⟨l,hl⟩:=hex 0 hc
      obtain ⟨h3,h4⟩:=z7Q hl
      have h5:l[0]? = some (l[0]'(by omega)):=List.getElem?_eq_getElem _
      have h6:=h4 0 _ h5
      rw [show (a.add (0*g.size)).add 0=a by simp [Addr.add]] at h6
      obtain ⟨h7,c,e',fr,h8,_⟩:=cell_of h6
      exact ⟨h7,c,e',fr,h8⟩
     have hpick:∀ k,∃ l:List Value,k<len→W.cells? 0 (a.add (k*g.size)) g.size=some l∧∃ d,DataW.trod enc P W 0 (fun _=>true) true n' e l=some d:=by
      intro k
      by_cases hkl:k<len
      ·have h3:=helem k hkl
       rw [hcg] at h3
       have:k<elems.length:=by omega
       rw [List.getElem?_eq_getElem this] at h3
       obtain ⟨l,h4,h5⟩:=Option.bind_eq_some_iff.1 h3
       exact ⟨l,fun _=>⟨h4,_,h5⟩⟩
      ·exact ⟨[],fun h=>absurd h hkl⟩
     obtain ⟨el,hel2⟩:=Classical.axiomOfChoice hpick
     have hlen2:∀ k,k<len→(el k).length=g.size:=fun k hk=>(z7Q (hel2 k hk).1).1
     obtain ⟨M,acc,f,k1,k2,k3,k4⟩:=zga (enc:=enc) (m:=m) (el:=el) (len:=len) hg rfl (fun c L hL hc=>ih e g c L hg h2 hL hc) (fun k hk=>⟨hlen2 k hk,n',(hel2 k hk).2⟩) len (ym _) L hL
     -- where they lie
     have hflat:∀ (k p:Nat) (v:Value),k≤len→((List.range k).flatMap el)[p]? = some v→∃ q,q<k∧W.cell? ((a.add (q*g.size)).add (p - q*g.size))=some v∧q*g.size≤p:=by
      intro k
      induction k with
      | zero=>intro p v _ h;simp at h
      | succ k ih2 =>
       intro p v hk h
       rw [List.range_succ,List.flatMap_append] at h
       have hfl:((List.range k).flatMap el).length=k*g.size:=by
        clear h ih2
        induction k with
        | zero=>simp
        | succ k ih3=>rw [List.range_succ,List.flatMap_append,List.length_append,ih3 (by omega)];simp [hlen2 k (by omega),Nat.succ_mul]
       by_cases hp:p<k*g.size
       ·rw [List.getElem?_append_left (by omega)] at h
        obtain ⟨q,h3,h4,h5⟩:=ih2 p v (by omega) h
        exact ⟨q,by omega,h4,h5⟩
       ·rw [List.getElem?_append_right (by omega),hfl] at h
        simp at h
        refine ⟨k,by omega,(z7Q (hel2 k (by omega)).1).2 _ v h,by omega⟩
     by_cases hc0:cap=0
     ·subst hc0
      obtain rfl:len=0:=by omega
      refine ⟨[(⟨0,0,0,0⟩,([],e))],[.slice (some ⟨L.length,0,none⟩) 0 0],[.lst e false 0 fun _=>[]],hL.cons ⟨hW,fun h=>absurd rfl h⟩,.cons (.slice ⟨⟨0,0,0,0⟩,?_,fun h=>absurd rfl h,fun h=>absurd rfl h,ym _,fun _=>rfl,ym _,.inl rfl⟩) .nil,
       .cons (.lst (sz:=0) (fun _=>[]) ?_ (zaq (s:=(⟨0,0,0,0⟩,([],e))) ?_ _) (ym _) (yu _) (.inl rfl) (fun k hk=>by omega) (fun k hk=>by omega)) .nil,by simp [zm h0],false,0,_,rfl,fun _=>rfl,yu _,fun k hk=>by omega⟩
      ·show (sOf (_::L) L.length).map (·.1)=_
       rw [sOf,if_pos rfl];rfl
      ·show L.length<(_::L).length;simp
      ·show sOf (_::L) L.length=_
       rw [sOf,if_pos rfl]
     ·obtain ⟨hsp,c,e',fr,hb⟩:=hblk (by omega)
      have hseg:SegOk E W (jOf (M++L)) (⟨a.block,a.off,c.size,g.size⟩,(acc,e)):=by
       refine ⟨(Array.getElem?_eq_some_iff.1 hb).1,fun hne=>⟨c,e',fr,hb,rfl,?_,fun t ht=>by rw [hg] at ht;cases ht;rfl,fun p v hv=>?_⟩⟩
       ·have hlp:0<len:=by
         cases len with
         | zero=>simp at k2;exact absurd k2 (by simpa using hne)
         | succ _=>omega
        have h3:=(z7Q (hel2 (len - 1) (by omega)).1)
        have hgl:(el (len - 1))[g.size - 1]? = some ((el (len - 1))[g.size - 1]'(by rw [h3.1];omega)):=List.getElem?_eq_getElem _
        obtain ⟨_,c2,e2,fr2,h4,h5⟩:=cell_of (h3.2 _ _ hgl)
        rw [(z4l _ _).2,(z4l _ _).2,hb] at h4
        cases h4
        have h6:=(Array.getElem?_eq_some_iff.1 h5).1
        rw [(z4l _ _).1,(z4l _ _).1] at h6
        show a.off+acc.length≤c.size
        rw [k2]
        have:(len - 1)*g.size+g.size=len*g.size:=by rw [←Nat.succ_mul];congr 1;omega
        omega
       ·obtain ⟨v',h3,h4⟩:=k3.get hv
        obtain ⟨q,h5,h6,h7⟩:=hflat len p v' (ym _) h3
        obtain ⟨_,c2,e2,fr2,h8,h9⟩:=cell_of h6
        rw [(z4l _ _).2,(z4l _ _).2,hb] at h8
        cases h8
        rw [(z4l _ _).1,(z4l _ _).1] at h9
        refine ⟨v',?_,h4⟩
        show c[a.off+p]? = _
        rw [show a.off+p=a.off+q*g.size+(p - q*g.size) by omega];exact h9
      have hso:sOf ((⟨a.block,a.off,c.size,g.size⟩,(acc,e))::(M++L)) (M++L).length=some (⟨a.block,a.off,c.size,g.size⟩,(acc,e)):=by rw [sOf,if_pos rfl]
      refine ⟨(⟨a.block,a.off,c.size,g.size⟩,(acc,e))::M,[.slice (some ⟨(M++L).length,0,none⟩) len cap],[.lst e false len f],k1.cons hseg,.cons (.slice ⟨⟨a.block,a.off,c.size,g.size⟩,?_,fun _=>rfl,fun _=>hsp,hlc,fun _=>rfl,ym _,.inr ⟨by show a.off=0+a.off;omega,.inl rfl⟩⟩) .nil,
       .cons ?_ .nil,by simp [zm h0],false,len,f,rfl,fun h=>(by cases h),(by omega),fun k hk=>(k4 k hk).elim fun gi h=>h.2.2⟩
      ·show (sOf _ _).map (·.1)=_
       rw [List.cons_append,hso];rfl
      ·have hch:∀ k,∃ gi:List Value,k<len→cut acc (k*g.size) g.size=some gi∧PL E (M++L) (f k) gi:=by
        intro k
        by_cases hk:k<len
        ·obtain ⟨gi,h3,h4,_⟩:=k4 k hk
         exact ⟨gi,fun _=>⟨h3,h4⟩⟩
        ·exact ⟨[],fun h=>absurd h hk⟩
       obtain ⟨gg,hgg⟩:=Classical.axiomOfChoice hch
       refine .lst (sz:=g.size) gg ?_ (zaq (s:=(⟨a.block,a.off,c.size,g.size⟩,(acc,e))) hso _) hlc (yu _) (.inl rfl) (fun k hk=>?_) (fun k hk=>?_)
       ·show (M++L).length<(_::(M++L)).length
        simp
       ·rw [Nat.zero_add];exact (hgg k hk).1
       ·exact (hgg k hk).2.mono [_]
   ·cases h1
  | _=>rw [hdd] at hs;cases hs
end
end
section
open Go.ChangeShapes Go.WideShapes Go.RowKit
section
variable {H:Type} {enc:TypeId×Value→H} {P:Program} {E:Env} {W:World}
noncomputable def zoA (E:Env) (t:TypeId):Bool:=match E.ti.get t with
 | some i=>z4c i.desc
 | none=>false
noncomputable def zcJ (E:Env) (t:TypeId) (q:List PV):AV:=bif zoA E t then .agg (q.map .p) else .p (q.headD .nilp)
noncomputable def z7l (E:Env):List TypeId→List (List PV)→List AV
 | t::ts,q::qs=>zcJ E t q::z7l E ts qs
 | _,_=>[]
def Shs (E:Env) (m:Nat):List TypeId→List (List PV)→Prop
 | [],[]=>True
 | t::ts,q::qs=>Sh E m t q∧Shs E m ts qs
 | _,_=>False
theorem zdo {base:Nat} {t:TypeId} {v:Value} {d:TypeDesc} (hd:P.underlying t=some d) (h:Value.okWide P W .any base t v) (hs:z4c d=true∨d = .bool∨(∃ k,d = .int k)∨d = .string∨∃ e,d = .slice e):(z4c d=true→∃ cs,v = .agg cs)∧(z4c d=false→v.cells = #[v]):=by
 unfold Value.okWide at h
 rw [hd] at h
 refine ⟨fun ha=>?_,fun ha=>?_⟩
 ·cases d <;> first | (cases ha;done) | (obtain ⟨cs,rfl,_⟩:=h;exact ⟨cs,rfl⟩)
 ·rcases hs with hs | rfl | ⟨k,rfl⟩ | rfl | ⟨e,rfl⟩
  ·rw [hs] at ha;cases ha
  all_goals
   change Cell.okWide P W .any base t v at h
   unfold Cell.okWide at h
   rw [hd] at h
   cases v <;> first | rfl | (change Cell.ok P W .any base t _ at h;unfold Cell.ok at h;rw [hd] at h;exact h.elim)
theorem zk8 {m:Nat} {t:TypeId} (h:sup E m t=true):∃ i,E.ti.get t=some i∧(z4c i.desc=true∨i.desc = .bool∨(∃ k,i.desc = .int k)∨i.desc = .string∨∃ e,i.desc = .slice e):=by
 cases m with
 | zero=>cases h
 | succ m =>
  unfold sup at h
  split at h
  ·cases h
  ·rename_i i hi
   refine ⟨i,hi,?_⟩
   cases hd:i.desc <;> rw [hd] at h <;> first | (cases h;done) | (left;rfl) | (right;left;rfl) | (right;right;left;exact ⟨_,rfl⟩) | (right;right;right;left;rfl) | (right;right;right;right;exact ⟨_,rfl⟩)
theorem zc6 (hP:TiP P E) (hW:0<W.heap.size) {m base:Nat}:∀ {ts:List TypeId} {vs:List Value} {ds:List (DataW H)} {ps:List MemPlace} {L:List Seg},Valid E W L→(ts.all fun t=>sup E m t)=true→DataW.TrodAll enc P W 0 (fun _=>true) true ts vs ds ps →
  (∀ (j:Nat) t v,ts[j]? = some t→vs[j]? = some v→Value.okWide P W .any base t v) →
  ∃ M vs' qs,Valid E W (M++L)∧Yh (jOf (M++L)) vs' vs∧Shs E m ts qs∧∀ j,VRs (z3o E (z5C (M++L))) (st0 (M++L)) (fun b=>b<(M++L).length) j (z7l E ts qs) vs'
 | [],vs,ds,ps,L,hL,_,h,_=>by
  obtain ⟨rfl,rfl,rfl⟩:=trodAll_nil h
  exact ⟨[],[],[],hL,.nil,trivial,fun j=>.nil⟩
 | t::ts,vs,ds,ps,L,hL,hs,h,hv=>by
  obtain ⟨v,vs1,d,ds1,a,b,rfl,rfl,rfl,⟨n,h1⟩,h2⟩:=trodAll_cons h
  simp only [List.all_cons,yw] at hs
  obtain ⟨i,hi,hform⟩:=zk8 hs.1
  have hund:=(hP.ti t i hi).und
  obtain ⟨f1,f2⟩:=zdo hund (hv 0 t v rfl rfl) hform
  obtain ⟨M1,cs',qs,k1,k2,k3,k4,k5⟩:=lays (enc:=enc) hP hW m t i _ L hi hs.1 hL ⟨n,_,h1⟩
  obtain ⟨M2,vs',qss,m1,m2,m3,m4⟩:=zc6 hP hW k1 hs.2 h2 (fun j t' v' h3 h4=>hv (j+1) t' v' (by simpa using h3) (by simpa using h4))
  cases hag:z4c i.desc with
  | true =>
   obtain ⟨cs,rfl⟩:=f1 hag
   refine ⟨M2++M1,.agg cs'.toArray::vs',qs::qss,by rw [List.append_assoc];exact m1,by rw [List.append_assoc];exact .cons (.agg (by have:=k2.mono (z9G M2 (M1++L));exact this)) m2,⟨k5,m3⟩,fun j=>?_⟩
   rw [List.append_assoc]
   refine .cons ?_ (m4 j)
   unfold zcJ zoA
   rw [hi]
   simp only [hag,cond_true]
   have:=k3.mono M2
   exact .agg this.scalars this.toV
  | false =>
   have hc:=f2 hag
   have hk2:=k2
   rw [hc] at hk2
   cases hk2 with
   | cons r1 r2 =>
    cases r2
    rename_i u
    cases k3 with
    | cons p1 p2 =>
     cases p2
     rename_i q
     refine ⟨M2++M1,u::vs',[q]::qss,by rw [List.append_assoc];exact m1,by rw [List.append_assoc];exact .cons (r1.mono (z9G M2 (M1++L))) m2,⟨k5,m3⟩,fun j=>?_⟩
     rw [List.append_assoc]
     refine .cons ?_ (m4 j)
     unfold zcJ zoA
     rw [hi]
     simp only [hag,cond_false]
     have:=(PL.mono (E:=E) (L:=M1++L) M2 (qs:=[q]) (vs:=[u]) (.cons p1 .nil))
     cases this with
     | cons h _=>exact .p h
end
section
variable {H:Type} {enc:TypeId×Value→H} {P:Program}
structure Blw (W W':World):Prop where
 os:W'.os=W.os
 output:W'.output=W.output
 size:W.heap.size≤W'.heap.size
 block:∀ k,k<W.heap.size→W'.heap[k]? = W.heap[k]?
theorem Blw.same {W w':World} (h:Blw W w') {p:MemPlace} (hp:p.block<W.heap.size):W.sameAt w' p:=by
 cases p with
 | cell b o=>exact World.cell?_of_block (w:=W) (h.block b hp)
 | map b=>exact h.block b hp
theorem zlq {W W':World} (hio:SameIo W W') (hs:W.heap.size≤W'.heap.size) (hb:∀ c,c<W.heap.size→W'.heap[c]? = W.heap[c]?):Blw W W':=⟨hio.1,hio.2.2,hs,hb⟩
theorem zny {W W':World} (h:Blw W W') (may:MemPlace→Prop):W.keptBut W' may:=by
 refine ⟨h.os,h.output,fun i hi=>?_⟩
 rw [h.block i hi]
 rw [Array.getElem?_eq_getElem hi]
 cases W.heap[i] <;> simp
theorem z5t (hl:laidOutB P=true) {W W':World} (hb:Blw W W') {sp:Nat→Bool}:∀ {ts:List TypeId} {vs:List Value} {ds:List (DataW H)} {ps:List MemPlace},
  (ts.all fun t=>P.readableRec t&&decide (t<P.types.size))=true→DataW.TrodAll enc P W 0 (fun _=>true) true ts vs ds ps→(∀ x∈ps,x.block<W.heap.size)→(∀ x∈ps,sp x.block=true)→DataW.TrodAll enc P W' 0 sp true ts vs ds ps
 | [],vs,ds,ps,_,h,_,_=>by
  obtain ⟨rfl,rfl,rfl⟩:=trodAll_nil h
  exact rfl
 | t::ts,vs,ds,ps,ht,h,hlt,hsp=>by
  obtain ⟨v,vs1,d,ds1,a,b,rfl,rfl,rfl,h1,h2⟩:=trodAll_cons h
  simp only [List.all_cons,yw,decide_eq_true_eq] at ht
  refine ⟨a,b,WideElems.Trod_stays hl ht.1.1 ht.1.2 h1 (fun x hx=>hb.same (hlt x (by simp [hx]))) (fun x hx=>hsp x (by simp [hx])),z5t hl hb ?_ h2 (fun x hx=>hlt x (by simp [hx])) (fun x hx=>hsp x (by simp [hx])),rfl⟩
  exact ht.2
theorem zkT (hl:laidOutB P=true) {f:Func} {s:ChangeSpec} {apart fresh handsOn again:Bool} {W W':World} {args:Array Value} {ds gs:List (DataW H)} {before:List MemPlace} {tb:TypeId}
  (hps:(f.params.toList.all fun t=>P.readableRec t&&decide (t<P.types.size))=true) (hrt:f.resultTypes = #[tb]) (htb:P.underlying tb=some .bool) (hvs:s.vars=[])
  (hres:(s.fn H (ds++gs)).results=[.lit (.bool true)]) (hargs:(s.fn H (ds++gs)).args=ds) (hvars:(s.fn H (ds++gs)).vars=[])
  (hW:DataW.Whole enc P f.params.toList s.vars apart W args.toList ds gs before) (hb:Blw W W') :
  s.post enc P f apart fresh handsOn again W args (.bool true) W':=by
 have hlt:=fun p hp=>hW.lt p hp
 have hW0:=hW
 obtain ⟨p,q,hA,hV,rfl,hz,hn⟩:=hW
 rw [hvs] at hV
 obtain ⟨rfl,rfl⟩:=trodVars_none hV
 have hA':∀ sp:Nat→Bool,(∀ x∈p,sp x.block=true)→DataW.TrodAll enc P W' 0 sp true f.params.toList args.toList ds p:=fun sp hsp =>
  z5t hl hb hps hA (fun x hx=>hlt x (by simp [hx])) hsp
 have hR:∀ (b:Nat) (sp:Nat→Bool) (hd:Bool),DataW.TrodAll enc P W' b sp hd f.resultTypes.toList ((Value.bool true).resultList f.resultTypes.size) [.lit (.bool true)] []:=fun b sp hd=>by
  rw [hrt]
  exact trodAll_mk1 (shut_bool htb _)
 have hok:∀ (j:Nat) (t:TypeId) (r:Value),f.resultTypes[j]? = some t→((Value.bool true).resultList f.resultTypes.size)[j]? = some r→Value.okWide P W' .any 0 t r:=by
  exact ok_one hrt rfl (okWide_bool_mk htb _)
 have hold:∀ x∈p,(fun b=>decide (b<W.heap.size)) x.block=true:=fun x hx=>by simpa using hlt x (by simp [hx])
 refine ⟨ds,[],p++[],[],p,[],hW0,by rw [hres];exact hR _ _ _,by rw [hargs];exact hA' _ hold,by rw [hvs,hvars];rfl,World.keptBut_mono (fun x hx=>⟨by simpa using hx,.inr (.inl (by simpa using hx))⟩) (zny hb (fun x=>x∈p)),fun _=>?_⟩
 refine ⟨hok,[.lit (.bool true)]++ds,[],([]++p)++[],⟨[]++p,[],trodAll_append (hA' _ (fun _ _=>rfl)) (hR _ _ _),by rw [hvs];rfl,rfl,?_,?_⟩,?_⟩
 ·intro b off hp
  have hbl:b<W.heap.size:=hlt (.cell b off) (by simpa using hp)
  have h1:=hz b off (by simpa using hp)
  unfold World.frozen? at h1 ⊢
  rw [hb.block b hbl];exact h1
 ·intro ha
  have:=hn ha
  simpa using this
 ·intro x hx _
  simpa using hx
end
section
variable {H:Type} {enc:TypeId×Value→H}
end
end
section
noncomputable section
section
variable {E:Env} {N:Nat} {st:List Nat} {rd:Option Nat} {Q:zK} {tb:Tab}
theorem z6N (hT:zM E tb=true) {ti tn tc ts idb id2 r1 r2:Nat} {t1 t2 t3 t4 ty1 ty2 ty3:TypeId} {p1 p2 p3:String} {a1 a2 a3:Array Edge} {body:Code} {K:List KI} {F:VK} {L:VS} (n:Nat) (hn:n<9223372036854775808) (G:Nat→VK) (M:Nat→VS) (P:Nat→Prop)
  (hN:(Nat.blt tc N&&(Nat.blt ts N&&Nat.blt ti N))=true) (hne:(!Nat.beq tc ti&&(!Nat.beq tc tn&&(!Nat.beq ts ti&&(!Nat.beq ts tn && !Nat.beq ti tn))))=true)
  (hcl:∀ k,((G k).all fun p=>!Nat.beq ti p.1 && !Nat.beq ts p.1)=true)
  (h0:Vw E st F L ((ti,nv 0)::(tn,nv n)::G 0) (M 0)) (hP:P 0)
  (hb:∀ k,k<n→P k→VSt.H E N st rd Q (.code body (.block id2 :: .inv (fun F' L'=>Vw E st F' L' ((ti,nv k)::(tn,nv n)::G (k+1)) (M (k+1))∧P (k+1)) :: .block idb::K) ((tc,.p (.bool true))::(ti,nv k)::(tn,nv n)::G k) (M k)))
  (he:P n→VSt.H E N st rd Q (.ex .normal K ((tc,.p (.bool false))::(ti,nv n)::(tn,nv n)::G n) (M n))) :
  VSt.H E N st rd Q (.code (.loop (.seq (.region r1 #[⟨some tc,.binOp .lss t1 (.tmp ti) (.tmp tn) t2,ty1,p1,a1,none⟩] false)
   (.seq (.cond (.tmp tc) .skip (.exit idb)) (.seq (.block id2 body) (.region r2 #[⟨some ts,.binOp .add t3 (.tmp ti) (.const (.int .i64 1)) t4,ty2,p2,a2,none⟩,⟨some ti,.move (.tmp ts),ty3,p3,a3,none⟩] false))))) (.block idb::K) F L):=by
 refine VSt.range hT n hn (fun k l L=>l=G k∧L=M k∧P k) hN hne ⟨G 0,M 0,h0,rfl,rfl,hP⟩ ?_ ?_
 ·rintro k l L hk ⟨rfl,rfl,hp⟩
  refine VW.mono (hb k hk hp) ?_
  intro e F' L' h
  cases e with
  | normal=>exact ⟨_,_,h.1,⟨rfl,rfl,h.2⟩,hcl _⟩
  | ret=>exact h
  | exit i =>
   show if i=id2 then _ else _
   change (if i=id2 then _ else _) at h
   split at h
   ·rename_i e;rw [if_pos e];exact ⟨_,_,h.1,⟨rfl,rfl,h.2⟩,hcl _⟩
   ·rename_i e;rw [if_neg e];exact h
 ·rintro l L ⟨rfl,rfl,hp⟩
  exact he hp
theorem Vw.drop {F F0:VK} {L:VS} (h:∀ p∈F0,∃ a,ak F p.1=some a∧a.only (olds [])=true∧AImp (a.ren (rnk [])) p.2):Vw E [] F L F0 []:=z0F ⟨rfl,rfl,h,[],rfl,trivial⟩
end
def AImps:List AV→List AV→Prop
 | [],[]=>True
 | a::l,b::m=>AImp a b∧AImps l m
 | _,_=>False
theorem AImps.vrs {E:Env} {S:St} {Z:Nat→Prop} {j:Nm}:∀ {l m:List AV} {vs:List Value},AImps l m→VRs E S Z j l vs→VRs E S Z j m vs
 | [],[],_,_,h=>h
 | _::_,_::_,_,h,.cons hv hl=>.cons (h.1 _ _ _ _ _ hv) (h.2.vrs hl)
theorem VP.imp {E:Env} {f:Nat} {as bs:List AV} {r:AV} (h:VP E f bs r) (hi:AImps as bs):VP E f as r:=⟨h.1,fun S Z j vs h1 h2=>h.2 S Z j vs h1 (hi.vrs h2)⟩
section
variable {E:Env} {N:Nat} {st:List Nat} {rd:Option Nat} {Q:zK}
theorem VSt.pc {ops:Array Oper} {o:Oper} {rest:List Oper} {K:List KI} {F:VK} {L:VS} {c:Call} {f:Operand} {g:FuncId} {first cap args l:List AV} {r:AV} (hg:vgl ops F o.guard=some true) (hd:zI o.dst N=true)
  (hop:o.op = .call c) (hc:c.callee = .value f) (hf:av F f=some (.fn g first cap)) (ha:avs F c.args.toList=some args) (hl:first++(args++cap)=l) (hon:z06 (olds []) l=true) (hP:VP E g l r)
  (h:VSt.H E N st rd Q (.ops ops rest K (zL o.dst r F) L)):VSt.H E N st rd Q (.ops ops (o::rest) K F L):=by
 subst hl;exact z6c hP hg hd hop hc hf ha hon h
theorem z2U {ops:Array Oper} {bs:List Nat} {ks:List (Nat×Option Nat)} {i:Nat} {o:Oper} {rest:List Oper} {K:List KI} {F:VK} {L:VS} {c:Call} {f:Operand} {g:FuncId} {first cap args l:List AV} {r:AV} (hg:vgl ops F o.guard=some true) (hd:zI o.dst N=true)
  (hop:o.op = .call c) (hc:c.callee = .value f) (hf:av F f=some (.fn g first cap)) (ha:avs F c.args.toList=some args) (hl:first++(args++cap)=l) (hon:z06 (olds []) l=true) (hP:VP E g l r)
  (h:VSt.H E N st rd Q (.dops ops bs ks rest (i+1) K (zL o.dst r F) L)):VSt.H E N st rd Q (.dops ops bs ks (o::rest) i K F L):=by
 subst hl;exact zgx hP hg hd hop hc hf ha hon h
end
def pk (ps:List (Nat×Nat)) (k:Nat):Nat:=match pl ps k with
 | some i=>i
 | none=>k
theorem zo {F F0:VK} {ps:List (Nat×Nat)} {t:Nat} {a0:AV} (h:ak F t=some (a0.ren (pk ps))) (ho:(a0.ren (pk ps)).only (olds ps)=true) (hr:(a0.ren (pk ps)).ren (rnk ps)=a0) (hl:∀ p∈F0,∃ a,ak F p.1=some a∧a.only (olds ps)=true∧AImp (a.ren (rnk ps)) p.2) :
  ∀ p∈(t,a0)::F0,∃ a,ak F p.1=some a∧a.only (olds ps)=true∧AImp (a.ren (rnk ps)) p.2:=z0k h ho hr hl
theorem z04 {a b:AV} (h:a=b):AImp a b:=h ▸ AImp.refl a
section
variable {E:Env} {N:Nat} {st:List Nat} {rd:Option Nat} {Q:zK}
theorem zdP {S:St} {Z:Nat→Prop} {j:Nm} {T:Fr} {F:VK} {d:Nat} {a b:AV} (h:ak F d=some a) (hi:AImp a b) (hF:FRR E S Z j F T):FRR E S Z j ((d,b)::F) T:=by
 intro x c hc
 rw [ak_cons] at hc
 split at hc
 ·rename_i e;subst e
  cases hc
  obtain ⟨v,h1,h2⟩:=hF _ _ h
  exact ⟨v,h1,hi _ _ _ _ _ h2⟩
 ·exact hF x c hc
theorem z0a {ops:Array Oper} {rest:List Oper} {K:List KI} {F:VK} {L:VS} (d:Nat) {a:AV} (b:AV) (h:ak F d=some a) (hi:AImp a b) (h1:VSt.H E N st rd Q (.ops ops rest K ((d,b)::F) L)):VSt.H E N st rd Q (.ops ops rest K F L) :=
 zf (fun T S Z j k1 k2=>⟨Z,j,k1,zdP h hi k2,Ex.refl _ _ _,Stay.refl _ _⟩) h1
theorem VSt.putC {c:Code} {K:List KI} {F:VK} {L:VS} (d:Nat) {a:AV} (b:AV) (h:ak F d=some a) (hi:AImp a b) (h1:VSt.H E N st rd Q (.code c K ((d,b)::F) L)):VSt.H E N st rd Q (.code c K F L) :=
 z02 (fun T S Z j k1 k2=>⟨Z,j,k1,zdP h hi k2,Ex.refl _ _ _,Stay.refl _ _⟩) h1
theorem z0f {ops:Array Oper} {bs:List Nat} {ks:List (Nat×Option Nat)} {i:Nat} {rest:List Oper} {K:List KI} {F:VK} {L:VS} (d:Nat) {a:AV} (b:AV) (h:ak F d=some a) (hi:AImp a b) (h1:VSt.H E N st rd Q (.dops ops bs ks rest i K ((d,b)::F) L)):VSt.H E N st rd Q (.dops ops bs ks rest i K F L):=by
 intro T S Z j D r0 k1 k2 k3 k4 k5 k6 k7
 obtain ⟨n,r,k8,F',L',Z2,j2,k9,k10⟩:=h1 T S Z j D r0 k1 k2 (zdP h hi k3) k4 k5 k6 k7
 exact ⟨n,r,k8,F',L',Z2,j2,⟨k9.n,k9.sr,k9.fr,k9.ex,k9.low,k9.stay⟩,k10⟩
end
theorem z2y {x:Int} {n:Nat} (h:x=Int.ofNat n):AImp (iv x) (nv n):=h ▸ AImp.refl _
abbrev bv (b:Bool):AV:=.p (.bool b)
end
noncomputable section
def z7x (N:Nat):List Tmp→List AV→VK→Option VK
 | [],[],G=>some G
 | t::ts,a::as,G=>bif Nat.blt t N then z7x N ts as ((t,a)::G) else none
 | _,_,_=>none
section
variable {E:Env} {N:Nat} {st:List Nat} {rd:Option Nat} {tb:Tab}
theorem zbb {S:St} {Z:Nat→Prop} {j:Nm}:∀ {ps:List Tmp} {as:List AV} {vs:List Value} {G G1:VK} {T:Fr},z7x N ps as G=some G1→FRR E S Z j G T→T.n=N→VRs E S Z j as vs→∃ T1,z4K ps vs T=some T1∧T1.n=N∧FRR E S Z j G1 T1
 | [],[],_,G,G1,T,h,hF,hN,.nil=>by cases h;exact ⟨T,rfl,hN,hF⟩
 | [],_::_,_,G,G1,T,h,hF,hN,hv=>by cases h
 | _::_,[],_,G,G1,T,h,hF,hN,hv=>by cases h
 | t::ts,a::as,_,G,G1,T,h,hF,hN,.cons (v:=v) (vs:=vs) hv hl=>by
  simp only [z7x] at h
  cases ht:Nat.blt t N with
  | false=>rw [ht] at h;cases h
  | true =>
   rw [ht] at h
   obtain ⟨T1,h1,h2,h3⟩:=hF.put (d:=t) (by rw [hN];exact ht) hv
   obtain ⟨T2,h4,h5,h6⟩:=zbb h h3 (h2.trans hN) hl
   refine ⟨T2,?_,h5,h6⟩
   show ob (T.put (some t) v) _=_
   rw [h1];exact h4
theorem zjE {g:Nat→Bool}:∀ {F:VK} {t:Nat} {a:AV},ak F t=some a→z2Q g F=true→a.only g=true
 | [],t,a,h,_=>by cases h
 | (x,a0)::l,t,a,h,ho=>by
  simp only [z2Q,yw] at ho
  simp only [ak] at h
  cases hb:Nat.beq x t with
  | true=>rw [hb] at h;cases h;exact ho.1
  | false=>rw [hb] at h;exact zjE h ho.2
theorem FRR.monoO {S S':St} {Z Z':Nat→Prop} {j j':Nm} {F:VK} {T:Fr} {g:Nat→Bool} (h:FRR E S Z j F T) (hz:ZLe E S Z S' Z') (hj:∀ i b,g i=true→j i=some b→j' i=some b) (ho:z2Q g F=true):FRR E S' Z' j' F T:=fun t a ha=>by
 obtain ⟨v,h1,h2⟩:=h t a ha
 exact ⟨v,h1,h2.mono hz hj (zjE ha ho)⟩
def inB (l:List Nat) (x:Nat):Bool:=l.any fun k=>Nat.beq k x
theorem z1b {l:List Nat} {x:Nat} (h:inB l x=true):x∈l:=by
 obtain ⟨k,h1,h2⟩:=List.any_eq_true.1 h
 rw [←zm h2];exact h1
theorem z3u {S:St} {b:Nat} {o:Yg} (h:S.low≤S.size):(S.put b o).low≤(S.put b o).size:=yn (Nat.min_le_right _ _) h
theorem z0q {S:St} {b:Nat} {o:Yg}:(S.put b o).heap.get b=some o:=by rw [get_put,if_pos rfl]
theorem VO.yield {ops:Array Oper} {o:Oper} {rest:List Oper} {F:VK} {L:VS} {Q:VK→VS→Prop} {c:Call} {f:Operand} {i No:Nat} {as:List AV} {G G1:VK} {ps:List Tmp} {asg body:Code} (hg:vgd ops F o.guard=some true) (hd:zI o.dst N=true)
  (hop:o.op = .call c) (hc:c.callee = .value f) (hf:av F f=some (.yld i)) (ha:avs F c.args.toList=some as) (hb:bk L i=some (.loop .ready none G No ps asg body)) (hk:z7x No ps as G=some G1) (st1:List Nat) (hs1:inB st1 i=true) (hs2:z2Q (inB st1) F=true) (hs3:(st.all (inB st1))=true)
  (h:∀ rd,VW E No st1 rd asg G1 L (fun e F1 L1=>e = .normal∧∃ G2,bk L1 i=some (.loop .ready none G2 No ps asg body)∧VW E No st1 rd body F1 (up L1 i (.loop .busy none G2 No ps asg body)) (fun e F2 L2 =>
   ∃ F0 L0 pd G3,Vw E st1 F2 L2 F0 L0∧bk L0 i=some (.loop .busy pd G3 No ps asg body)∧VO E N st ops rest (zL o.dst (.lit (zk e)) F) (up L0 i (.loop (bf (zk e) .ready .done) (codeOf e) G3 No ps asg body)) Q))):VO E N st ops (o::rest) F L Q:=by
 intro T S Z j h1 h2 h3 h4
 obtain ⟨v,k1,k2⟩:=h3.ev hf
 obtain ⟨vs,k3,k4⟩:=h3.evs ha
 cases k2 with
 | @yld _ b hj =>
  obtain ⟨b0,hj0,T0,e1,e2,e3⟩:=h2.blk i _ hb id
  rw [hj] at hj0;cases hj0
  obtain ⟨T1,b1,b2,b3⟩:=zbb hk e3 e2 k4
  obtain ⟨n1,r1,q1,F1,L1,Z1,j1,q2,q3,G2,q4,q5⟩:=h (some b) T1 S Z j b2 h2 b3 h4
  have hj1:j1 i=some b:=q2.stay i (z1b hs1) b hj
  obtain ⟨b0,hj0,T2,f1,f2,f3⟩:=q2.sr.blk i _ q4 id
  rw [hj1] at hj0;cases hj0
  have z1:=z07 q2.sr hj1 (.loop .busy none T2 ps asg body)
  have hS1:=q2.sr.put (o:=.loop .busy none T2 ps asg body) (vb:=.loop .busy none G2 No ps asg body) q4 hj1 ⟨T2,z0q,f2,f3.mono' z1 fun _ _ h=>h⟩
  obtain ⟨n2,r2,p1,F2,L2,Z20,j20,p2,F0,L0,pd,G3,hw,p3,p4⟩:=q5 r1.T _ Z1 j1 q2.n hS1 (q2.fr.mono' z1 fun _ _ h=>h) (z3u q2.low)
  obtain ⟨Z2,j2,w1,w2,w3,w4⟩:=hw r2.T r2.S Z20 j20 p2.sr p2.fr
  have hj2:j2 i=some b:=w4 i (z1b hs1) b (p2.stay i (z1b hs1) b hj1)
  obtain ⟨b0,hj0,T3,g1,g2,g3⟩:=w1.blk i _ p3 id
  rw [hj2] at hj0;cases hj0
  have z2:=z07 w1 hj2 (.loop (bf (zk r2.ex) .ready .done) (codeOf r2.ex) T3 ps asg body)
  have hS2:=w1.put (o:=.loop (bf (zk r2.ex) .ready .done) (codeOf r2.ex) T3 ps asg body) (vb:=.loop (bf (zk r2.ex) .ready .done) (codeOf r2.ex) G3 No ps asg body) p3 hj2 ⟨T3,z0q,g2,g3.mono' z2 fun _ _ h=>h⟩
  have hex:=((q2.ex.trans (Ex.put q2.sr hj1 (.loop .busy none T2 ps asg body))).trans (p2.ex.trans w3)).trans (Ex.put w1 hj2 (.loop (bf (zk r2.ex) .ready .done) (codeOf r2.ex) T3 ps asg body))
  have hjj:∀ k c,inB st1 k=true→j k=some c→j2 k=some c:=fun k c hi hk=>w4 k (z1b hi) c (p2.stay k (z1b hi) c (q2.stay k (z1b hi) c hk))
  obtain ⟨T',t1,t2,t3⟩:=z0I (d:=o.dst) (a:=.lit (zk r2.ex)) (v:=.bool (zk r2.ex)) h1 (h3.monoO (hex.zle h2) hjj hs2) hd (.lit _)
  obtain ⟨n3,r,s1,F3,L3,Z3,j3,s2,s3⟩:=p4 T' _ Z2 j2 t2 hS2 t3 (z3u p2.low)
  refine ⟨n1+n2+n3,r,fun m hm=>?_,F3,L3,Z3,j3,⟨s2.n,s2.sr,s2.fr,hex.trans s2.ex,s2.low,Stay.trans (fun k hi c hk=>hjj k c (List.all_eq_true.1 hs3 k hi) hk) s2.stay⟩,s3⟩
  have hround:z6U (run E m).code b vs S=some (.bool (zk r2.ex),r2.S.put b (.loop (bf (zk r2.ex) .ready .done) (codeOf r2.ex) T3 ps asg body)):=by
   unfold z6U
   rw [e1]
   show ob (z4K ps vs T0) _=_
   rw [b1]
   show ob ((run E m).code asg (some b) T1 S) _=_
   rw [q1 m (by omega)]
   show gd (zk r1.ex) (ob (ob (r1.S.heap.get b) z3e) _)=_
   rw [q3,f1]
   show ob ((run E m).code body (some b) r1.T (r1.S.put b (.loop .busy none T2 ps asg body))) _=_
   rw [p1 m (by omega)]
   show ob (ob (r2.S.heap.get b) z3e) _=_
   rw [g1];rfl
  have hstep:zq E (run E m).call (run E m).code ops o T S=some (T',r2.S.put b (.loop (bf (zk r2.ex) .ready .done) (codeOf r2.ex) T3 ps asg body)):=by
   unfold zq
   rw [z1r hg h3,hop]
   have:zR E (run E m).call (run E m).code T S (.call c)=some (.bool (zk r2.ex),r2.S.put b (.loop (bf (zk r2.ex) .ready .done) (codeOf r2.ex) T3 ps asg body)):=by
    show ob (T.evs c.args.toList) _=_
    rw [k3,hc]
    show ob (T.ev f) _=_
    rw [k1]
    exact hround
   show ob (zR E _ _ T S (.call c)) (z3P T o.dst)=_
   rw [this]
   show ob (T.put o.dst _) _=_
   rw [t1];rfl
  show ob (zq E _ _ ops o T S) _=_
  rw [hstep]
  exact s1 m (by omega)
theorem VW.rangeFunc {f:Operand} {ps:Array Tmp} {asg body:Code} {F:VK} {L Lc:VS} {Q:zK} {g:FuncId} {first cap argsC:List AV} {pn:List (Nat×Nat)} {stc:List Nat} {R:AV→VS→Prop} (hf:av F f=some (.fn g first cap)) (hp:zbI pn=true)
  (hsel:zdc pn ((nx L,.loop .ready none F N ps.toList asg body)::L) pn=some Lc) (hstc:(pn.all fun p=>stc.any fun k=>Nat.beq k p.1)=true) (hon:z06 (olds pn) (first++([.yld (nx L)]++cap))=true) (hren:z0N (rnk pn) (first++([.yld (nx L)]++cap))=argsC) (hC:VC E stc g argsC Lc R)
  (h:∀ a L',R a L'→∃ st0 pd G2 e N2 ps2 asg2 body2,bk (z4j (z1p pn (nx ((nx L,.loop .ready none F N ps.toList asg body)::L))) L'++z2V pn ((nx L,.loop .ready none F N ps.toList asg body)::L)) (nx L)=some (.loop st0 pd G2 N2 ps2 asg2 body2)∧z9L st0=false∧z9V pd=some e ∧
   Q e F (up (z4j (z1p pn (nx ((nx L,.loop .ready none F N ps.toList asg body)::L))) L'++z2V pn ((nx L,.loop .ready none F N ps.toList asg body)::L)) (nx L) (.loop .exhausted pd G2 N2 ps2 asg2 body2))):VW E N st none (.rangeFunc f ps asg body) F L Q:=by
 intro T S Z j h1 h2 h3 h4
 obtain ⟨v,k1,k2⟩:=h3.ev hf
 cases k2 with
 | fn q1 q2 =>
  rename_i fa ca
  have hS1:=h2.new (o:=.loop .ready none T ps.toList asg body) (vb:=.loop .ready none F N ps.toList asg body) ⟨T,by rw [z0j,if_pos rfl],h1,h3.mono' (z0d h2 _) (h2.ext_le _)⟩
  have hself:ext j (nx L) S.size (nx L)=some S.size:=z0m _ _ _
  have hvs:VRs E (S.new (.loop .ready none T ps.toList asg body)) Z (ext j (nx L) S.size) (first++([.yld (nx L)]++cap)) (fa.toList++([.func (.yield S.size) #[] #[]]++ca.toList)) :=
   (q1.mono' (z0d h2 _) (h2.ext_le _)).append ((VRs.cons (.yld hself) .nil).append (q2.mono' (z0d h2 _) (h2.ext_le _)))
  have hvc:=hvs.ren (r:=rnk pn) (ZLe.refl _ Z) (z2i hp) hon
  rw [hren] at hvc
  obtain ⟨n,u,S',h5,a,L',Z',j',h6,h7,h8,h9,h10,h11⟩:=hC _ Z (z5r pn (ext j (nx L) S.size)) _ (hS1.sel hp hsel) hvc (Nat.le_succ_of_le h4)
  obtain ⟨jn,m1,m2,m3,m4⟩:=z6K hS1 hp hsel hstc h6 h8 h10
  obtain ⟨st0,pd,G2,e,N2,ps2,asg2,body2,g1,g2,g3,g4⟩:=h a L' h11
  have hj:=m3 _ _ hself
  obtain ⟨b0,hj0,T2,f1,f2,f3⟩:=m1.blk _ _ g1 id
  rw [hj] at hj0;cases hj0
  have z2:=z07 m1 hj (.loop .exhausted pd T2 ps2 asg2 body2)
  have hS2:=m1.put (o:=.loop .exhausted pd T2 ps2 asg2 body2) (vb:=.loop .exhausted pd G2 N2 ps2 asg2 body2) g1 hj ⟨T2,z0q,f2,f3.mono' z2 fun _ _ h=>h⟩
  have hex:=((Ex.new h2 (.loop .ready none T ps.toList asg body)).trans m2).trans (Ex.put m1 hj (.loop .exhausted pd T2 ps2 asg2 body2))
  have hjj:∀ k c,j k=some c→jn k=some c:=fun k c hk=>m3 k c (h2.ext_le _ k c hk)
  refine ⟨n+1,⟨e,T,S'.put S.size (.loop .exhausted pd T2 ps2 asg2 body2)⟩,fun m hm=>?_,F,_,Z',jn,⟨h1,hS2,h3.mono' (hex.zle h2) hjj,hex,z3u h9,fun k _ c hk=>hjj k c hk⟩,g4⟩
  obtain ⟨k,rfl,hk⟩:=zh hm
  show z2B (run E k).call f ps.toList asg body none T S=_
  unfold z2B
  show ob (ob (T.ev f) funcOf) _=_
  rw [k1]
  show ob ((run E k).call g (fa.toList++([.func (.yield S.size) #[] #[]]++ca.toList)) (S.new (.loop .ready none T ps.toList asg body))) _=_
  rw [h5 k (by omega)]
  show ob (ob (S'.heap.get S.size) z3e) _=_
  rw [f1]
  show gd (!z9L st0) (ob (z9V pd) _)=_
  rw [g2,g3];rfl
def zru (tb:Tab) (rs:List ResultVar) (R:AV→VS→Prop):zK:=fun e F L=>z8u e=true∧∃ l,zjX tb F L rs=some l∧R (zjQ l) L
theorem z7o {f:FuncId} {fn:Func} {c:Code} {args:List AV} {L:VS} {R:AV→VS→Prop} (hT:zM E tb=true) (hh:z6j E f=true) (hf:E.fns.get f=some fn) (hc:fn.body=some c) (ha:Nat.ble args.length fn.ntmps=true)
  (h:VSt.H E fn.ntmps st none (zru tb fn.results.toList R) (.code c [] (zoy args 0) L)):VC E st f args L R:=by
 intro S Z j vs hS hv hl
 obtain ⟨hhk,hh2,hh3⟩:=zbk hh vs
 obtain ⟨n,r,h1,F',L',Z',j',h2,h3,l,h4,h6⟩:=h ⟨fn.ntmps,z10 vs 0 .nil⟩ S Z j rfl hS (zbc _ _ _ _ _ hv) hl
 obtain ⟨us,h7,h8⟩:=za6 hT h2.sr h2.fr h4
 refine ⟨n+1,zkG us,r.S,fun m hm=>?_,zjQ l,L',Z',j',h2.sr,zi6 h8,h2.ex,h2.low,h2.stay,h6⟩
 obtain ⟨k,rfl,hk⟩:=zh hm
 show bf (z2E E f vs) _ (bf (z0A E f) _ (bf (z2z E f) _ (ob (E.fns.get f) _)))=_
 rw [hhk,hh2,hh3]
 show ob (E.fns.get f) _=_
 rw [hf]
 show ob fn.body _=_
 rw [hc]
 show gd (Nat.ble vs.length fn.ntmps) (ob (z1C E (run E k).call (run E k).code c none _ S) (z3Z E fn))=_
 rw [←hv.length,ha]
 show ob ((run E (k+1)).code c none _ S) (z3Z E fn)=_
 rw [h1 _ (by omega)]
 show gd (!z8H r.ex) (ob (z18 E r.T r.S fn.results.toList) _)=_
 have:(!z8H r.ex)=true:=by
  cases hx:r.ex with
  | exit id=>rw [hx] at h3;cases h3
  | normal=>rfl
  | ret=>rfl
 rw [this,h7]
 rfl
theorem z9h {F F0:VK} (h:∀ p∈F0,ak F p.1=some p.2):∀ t a,ak F0 t=some a→ak F t=some a:=fun t a ha=>h _ (z4k ha)
theorem z0v {F:VK}:∀ p∈([]:VK),ak F p.1=some p.2:=fun p h=>by cases h
theorem z0J {F F0:VK} {t:Nat} {a:AV} (h:ak F t=some a) (hl:∀ p∈F0,ak F p.1=some p.2):∀ p∈(t,a)::F0,ak F p.1=some p.2:=fun p hp=>by
 rcases List.mem_cons.1 hp with rfl | hp
 ·exact h
 ·exact hl p hp
variable {Q:zK}
theorem VSt.yield {ops:Array Oper} {o:Oper} {rest:List Oper} {K:List KI} {F:VK} {L:VS} {c:Call} {f:Operand} {i No:Nat} {as:List AV} {G G1:VK} {ps:List Tmp} {asg body:Code} (st1:List Nat) (hg:vgl ops F o.guard=some true) (hd:zI o.dst N=true)
  (hop:o.op = .call c) (hc:c.callee = .value f) (hf:av F f=some (.yld i)) (ha:avs F c.args.toList=some as) (hb:bk L i=some (.loop .ready none G No ps asg body)) (hk:z7x No ps as G=some G1) (hs1:inB st1 i=true) (hs2:z2Q (inB st1) F=true) (hs3:(st.all (inB st1))=true)
  (h:∀ rd1,VSt.H E No st1 rd1 (fun e F1 L1=>e = .normal∧∃ G2,bk L1 i=some (.loop .ready none G2 No ps asg body)∧VSt.H E No st1 rd1 (fun e F2 L2 =>
   ∃ F0 L0 pd G3,Vw E st1 F2 L2 F0 L0∧bk L0 i=some (.loop .busy pd G3 No ps asg body)∧VSt.H E N st rd Q (.ops ops rest K (zL o.dst (.lit (zk e)) F) (up L0 i (.loop (bf (zk e) .ready .done) (codeOf e) G3 No ps asg body)))) (.code body [] F1 (up L1 i (.loop .busy none G2 No ps asg body)))) (.code asg [] G1 L)):VSt.H E N st rd Q (.ops ops (o::rest) K F L) :=
 VO.yield (z1q hg) hd hop hc hf ha hb hk st1 hs1 hs2 hs3 fun rd1=>VW.mono (h rd1) fun e F1 L1 hq=>⟨hq.1,hq.2.elim fun G2 h2=>⟨G2,h2.1,VW.mono h2.2 fun e F2 L2 hq=>hq⟩⟩
theorem VSt.rangeFunc {f:Operand} {ps:Array Tmp} {asg body:Code} {K:List KI} {F:VK} {L Lc:VS} {g:FuncId} {first cap argsC:List AV} (pn:List (Nat×Nat)) {stc:List Nat} {R:AV→VS→Prop} (hf:av F f=some (.fn g first cap)) (hp:zbI pn=true)
  (hsel:zdc pn ((nx L,.loop .ready none F N ps.toList asg body)::L) pn=some Lc) (hstc:(pn.all fun p=>stc.any fun k=>Nat.beq k p.1)=true) (hon:z06 (olds pn) (first++([.yld (nx L)]++cap))=true) (hren:z0N (rnk pn) (first++([.yld (nx L)]++cap))=argsC) (hC:VC E stc g argsC Lc R)
  (h:∀ a L',R a L'→∃ st0 pd G2 e N2 ps2 asg2 body2,bk (z4j (z1p pn (nx ((nx L,.loop .ready none F N ps.toList asg body)::L))) L'++z2V pn ((nx L,.loop .ready none F N ps.toList asg body)::L)) (nx L)=some (.loop st0 pd G2 N2 ps2 asg2 body2)∧z9L st0=false∧z9V pd=some e ∧
   VSt.H E N st none Q (.ex e K F (up (z4j (z1p pn (nx ((nx L,.loop .ready none F N ps.toList asg body)::L))) L'++z2V pn ((nx L,.loop .ready none F N ps.toList asg body)::L)) (nx L) (.loop .exhausted pd G2 N2 ps2 asg2 body2)))):VSt.H E N st none Q (.code (.rangeFunc f ps asg body) K F L) :=
 VW.rangeFunc hf hp hsel hstc hon hren hC h
end
theorem BImp.cells {cs ds:List AV} {t:TypeId} (h:AImps cs ds):BImp (.cells cs t) (.cells ds t):=⟨fun E S Z j c hb=>by
 obtain ⟨vs,h1,h2,h3⟩:=hb
 exact ⟨vs,h1,h2,h.vrs h3⟩,id⟩
end
noncomputable section
mutual
def AV.plain:AV→Bool
 | .p (.int _ _)=>true
 | .p (.bool _)=>true
 | .p (.str _)=>true
 | .tup vs=>AV.plains vs
 | .agg vs=>AV.plains vs
 | _=>false
def AV.plains:List AV→Bool
 | []=>true
 | a::l=>a.plain&&AV.plains l
end
section
variable {E:Env}
mutual
theorem VR.plain {S S':St} {Z Z':Nat→Prop} {j j':Nm}:∀ {a:AV} {v:Value},VR E S Z j a v→a.plain=true→VR E S' Z' j' a v
 | _,_,.p h,ho=>by
  cases h with
  | int k n=>exact .p (.int k n)
  | bool b=>exact .p (.bool b)
  | str s=>exact .p (.str s)
  | _=>simp [AV.plain] at ho
 | _,_,.agg hs h,ho=>.agg hs (h.plains (by simpa [AV.plain] using ho))
 | _,_,.tup h,ho=>.tup (h.plains (by simpa [AV.plain] using ho))
 | _,_,.ref _,ho=>by simp [AV.plain] at ho
 | _,_,.el _,ho=>by simp [AV.plain] at ho
 | _,_,.sl _,ho=>by simp [AV.plain] at ho
 | _,_,.fn _ _,ho=>by simp [AV.plain] at ho
 | _,_,.map _,ho=>by simp [AV.plain] at ho
 | _,_,.yld _,ho=>by simp [AV.plain] at ho
 | _,_,.accN,ho=>by simp [AV.plain] at ho
 | _,_,.accE _ _ _,ho=>by simp [AV.plain] at ho
 | _,_,.accC _,ho=>by simp [AV.plain] at ho
 | _,_,.lit _,ho=>by simp [AV.plain] at ho
 | _,_,.junk _,ho=>by simp [AV.plain] at ho
theorem VRs.plains {S S':St} {Z Z':Nat→Prop} {j j':Nm}:∀ {a:List AV} {v:List Value},VRs E S Z j a v→AV.plains a=true→VRs E S' Z' j' a v
 | _,_,.nil,_=>.nil
 | _,_,.cons h hl,ho=>by
  simp only [AV.plains,yw] at ho
  exact .cons (h.plain ho.1) (hl.plains ho.2)
end
theorem SR.after {S S':St} {Z Z2:Nat→Prop} {j j1 j2:Nm} {L:VS} {Z1:Nat→Prop} (h:SR E S Z j L) (hex:Ex S Z1 j1 S' Z2 j2) (hn:∀ k,j1 k=none):SR E S' Z j L∧ZLe E S Z S' Z∧Ex S Z j S' Z j:=by
 have hold:∀ b,b<S.size→S'.heap.get b=S.heap.get b:=fun b hb=>hex.old b hb fun k hk=>by rw [hn] at hk;cases hk
 have hz:ZLe E S Z S' Z:=fun b hb=>⟨hb,by unfold rdc St.cells;rw [hold b (h.zlt b hb)]⟩
 refine ⟨⟨fun b hb=>yo (h.zlt b hb) hex.size,fun i b hb=>⟨yo (h.jlt i b hb).1 hex.size,(h.jlt i b hb).2⟩,h.inj,h.dom,fun i vb hi=>?_,fun b c hb=>⟨yo (h.rom b c hb).1 hex.size,(h.rom b c hb).2⟩⟩,hz,⟨hex.size,fun b hb _=>hold b hb,fun b hb=>hb,fun b hb=>.inl hb,fun i b hi=>.inr ⟨i,hi⟩,hex.low.1,fun m h1 h2 h3=>hex.low.2 m h1 h2 fun k b hk=>by rw [hn] at hk;cases hk⟩⟩
 rcases h.blk' i vb hi with hv | ⟨b,h1,h2⟩
 ·exact .inl hv
 ·exact .inr ⟨b,h1,h2.mono (hold b (h.jlt i b h1).1) hz (fun _ _ h=>h)⟩
variable {N:Nat} {st:List Nat} {rd:Option Nat} {Q:zK}
theorem zkE {ops:Array Oper} {o:Oper} {F F0:VK} {L L0:VS} {c:Call} {f:Operand} {g:FuncId} {first cap args:List AV} {r:AV} (hw:Vw E [] F L F0 L0) (hP:VP E g (first++(args++cap)) r) (hr:r.plain=true) (hg:vgd ops F o.guard=some true) (hd:zI o.dst N=true)
  (hop:o.op = .call c) (hc:c.callee = .value f) (hf:av F0 f=some (.fn g first cap)) (ha:avs F0 c.args.toList=some args) (hon:z06 (olds []) (first++(args++cap))=true)
  {T:Fr} {S:St} {Z:Nat→Prop} {j:Nm} (h1:T.n=N) (h2:SR E S Z j L) (h3:FRR E S Z j F T) (h4:S.low≤S.size) :
  ∃ n T' S',(∀ m,n≤m→zq E (run E m).call (run E m).code ops o T S=some (T',S'))∧T'.n=N∧SR E S' Z j L∧FRR E S' Z j (zL o.dst r F) T'∧Ex S Z j S' Z j∧S'.low≤S'.size∧(S.low≤S.size→S'.low=S.low):=by
 obtain ⟨Z1,j1,w1,w2,w3,_⟩:=hw T S Z j h2 h3
 obtain ⟨v,k1,k2⟩:=w2.ev hf
 obtain ⟨vs,k3,k4⟩:=w2.evs ha
 cases k2 with
 | fn q1 q2 =>
  rename_i fa ca
  have hvs:VRs E S Z1 j1 (first++(args++cap)) (fa.toList++(vs++ca.toList)):=q1.append (k4.append q2)
  have hvc:=hvs.ren (r:=rnk []) (ZLe.refl S Z1) (z2i (ps:=[]) rfl) hon
  rw [z8k _ hon] at hvc
  obtain ⟨n,u,S',h5,a,L',Z2,j2,h6,h7,h8,h9,h10,rfl,_⟩:=hP.2 S Z1 (z5r [] j1) _ (w1.sel (ps:=[]) rfl rfl) hvc h4
  obtain ⟨a1,a2,a3⟩:=h2.after h8 (fun k=>rfl)
  obtain ⟨T',t1,t2,t3⟩:=z0I h1 (h3.mono' a2 fun _ _ h=>h) hd (h7.plain hr)
  refine ⟨n,T',S',fun m hm=>?_,t2,a1,t3,a3,h9,fun hl=>Nat.le_antisymm h8.low.1 (h8.low.2 S.low (ym _) hl fun k b hk=>by cases hk)⟩
  unfold zq
  rw [z1r hg h3,hop]
  have:zR E (run E m).call (run E m).code T S (.call c)=some (u,S'):=by
   show ob (T.evs c.args.toList) _=_
   rw [k3,hc]
   show ob (T.ev f) _=_
   rw [k1]
   exact h5 m hm
  show ob (zR E _ _ T S (.call c)) (z3P T o.dst)=_
  rw [this]
  show ob (T.put o.dst u) _=_
  rw [t1];rfl
theorem z6d {ops:Array Oper} {o:Oper} {rest:List Oper} {K:List KI} {F F0:VK} {L L0:VS} {c:Call} {f:Operand} {g:FuncId} {first cap args:List AV} {r:AV} (hw:Vw E [] F L F0 L0) (hg:vgl ops F o.guard=some true) (hd:zI o.dst N=true)
  (hop:o.op = .call c) (hc:c.callee = .value f) (hf:av F0 f=some (.fn g first cap)) (ha:avs F0 c.args.toList=some args) (hon:z06 (olds []) (first++(args++cap))=true) (hP:VP E g (first++(args++cap)) r) (hr:r.plain=true)
  (h:VSt.H E N st rd Q (.ops ops rest K (zL o.dst r F) L)):VSt.H E N st rd Q (.ops ops (o::rest) K F L):=by
 intro T S Z j h1 h2 h3 h4
 obtain ⟨n,T',S',k1,k3,k4,k5,k6,k7,_⟩:=zkE hw hP hr (z1q hg) hd hop hc hf ha hon h1 h2 h3 h4
 obtain ⟨n2,r,q1,F2,L2,Z2,j2,q2,q3⟩:=h T' S' Z j k3 k4 k5 k7
 refine ⟨n+n2,r,fun m hm=>?_,F2,L2,Z2,j2,⟨q2.n,q2.sr,q2.fr,k6.trans q2.ex,q2.low,q2.stay⟩,q3⟩
 show ob (zq E _ _ ops o T S) _=_
 rw [k1 m (by omega)]
 exact q1 m (by omega)
end
end
end
section
noncomputable section
section
variable {E:Env} {N:Nat} {st:List Nat} {rd:Option Nat} {Q:zK}
theorem VSt.cc {ops:Array Oper} {o:Oper} {rest:List Oper} {K:List KI} {F:VK} {L:VS} {c:Call} {f:Operand} {g:FuncId} {first cap args argsC:List AV} {Lc:VS} (ps:List (Nat×Nat)) {stc:List Nat} {R:AV→VS→Prop} (hg:vgl ops F o.guard=some true) (hd:zI o.dst N=true)
  (hop:o.op = .call c) (hc:c.callee = .value f) (hf:av F f=some (.fn g first cap)) (ha:avs F c.args.toList=some args) (hp:zbI ps=true) (hsel:zdc ps L ps=some Lc) (hstc:(ps.all fun p=>stc.any fun k=>Nat.beq k p.1)=true)
  (hon:z06 (olds ps) (first++(args++cap))=true) (hren:z0N (rnk ps) (first++(args++cap))=argsC) (hC:VC E stc g argsC Lc R)
  (h:∀ a L',R a L'→VSt.H E N st rd Q (.ops ops rest K (zL o.dst (a.ren (z1p ps (nx L))) F) (z4j (z1p ps (nx L)) L'++z2V ps L))):VSt.H E N st rd Q (.ops ops (o::rest) K F L) :=
 VO.call (z1q hg) hd hop hc hf ha hp hsel hstc hon hren hC h
end
end
noncomputable section
def PImp (p q:PV):Prop:=∀ E S Z v,PR E S Z p v→PR E S Z q v
theorem PImp.refl (p:PV):PImp p p:=fun _ _ _ _ h=>h
def PImps:List PV→List PV→Prop
 | [],[]=>True
 | a::l,b::m=>PImp a b∧PImps l m
 | _,_=>False
theorem PImps.prs {E:Env} {S:St} {Z:Nat→Prop}:∀ {l m:List PV} {vs:List Value},PImps l m→PRs E S Z l vs→PRs E S Z m vs
 | [],[],_,_,h=>h
 | _::_,_::_,_,h,.cons hv hl=>.cons (h.1 _ _ _ _ hv) (h.2.prs hl)
theorem PImp.lst {ty n:Nat} {nb:Bool} {f g:Nat→List PV} (h:∀ k,k<n→PImps (f k) (g k)):PImp (.lst ty nb n f) (.lst ty nb n g):=fun E S Z v hv=>by
 cases hv with
 | nil=>exact .nil _ _
 | lst gg hz hc hcap hoff hty hcut hh=>exact .lst gg hz hc hcap hoff hty hcut (fun k hk=>(h k hk).prs (hh k hk))
theorem PImp.toA {p q:PV} (h:PImp p q):AImp (.p p) (.p q):=fun E S Z j v hv=>by
 cases hv with
 | p hv=>exact .p (h _ _ _ _ hv)
theorem PImps.toA:∀ {l m:List PV},PImps l m→AImps (l.map .p) (m.map .p)
 | [],[],_=>trivial
 | _::_,_::_,h=>⟨h.1.toA,h.2.toA⟩
theorem zjO {l m:List PV} (h:PImps l m):AImp (.agg (l.map .p)) (.agg (m.map .p)):=fun E S Z j v hv=>by
 cases hv with
 | agg hs hv=>exact .agg hs (h.toA.vrs hv)
def zm8:TypeDesc→Option (List (Nat×Nat))
 | .struct fs=>some (fs.toList.map fun f=>(f.type,f.offset))
 | _=>none
def szT (E:Env) (t:Nat):Option Nat:=(E.ti.get t).map (·.size)
section
variable {E:Env} {n t:Nat} {qs:List PV}
theorem Sh.int {k:IntKind} (hi:(E.ti.get t).map (·.desc)=some (.int k)) (h:Sh E (n+1) t qs):∃ x,qs=[.int k x]∧k.min≤x∧x≤k.max:=by
 unfold Sh at h
 cases hg:E.ti.get t with
 | none=>rw [hg] at hi;cases hi
 | some i =>
  rw [hg] at hi h
  have hi:i.desc = .int k:=Option.some.inj hi
  simp only [hi] at h
  exact h
theorem Sh.bool (hi:(E.ti.get t).map (·.desc)=some .bool) (h:Sh E (n+1) t qs):∃ b,qs=[.bool b]:=by
 unfold Sh at h
 cases hg:E.ti.get t with
 | none=>rw [hg] at hi;cases hi
 | some i =>
  rw [hg] at hi h
  have hi:i.desc = .bool:=Option.some.inj hi
  simp only [hi] at h
  exact h
theorem Sh.string (hi:(E.ti.get t).map (·.desc)=some .string) (h:Sh E (n+1) t qs):∃ s:ByteArray,qs=[.str s]∧s.size≤maxLen:=by
 unfold Sh at h
 cases hg:E.ti.get t with
 | none=>rw [hg] at hi;cases hi
 | some i =>
  rw [hg] at hi h
  have hi:i.desc = .string:=Option.some.inj hi
  simp only [hi] at h
  exact h
theorem Sh.slice {e:TypeId} (hi:(E.ti.get t).map (·.desc)=some (.slice e)) (h:Sh E (n+1) t qs):∃ nb m f,qs=[.lst e nb m f]∧(nb=true→m=0)∧m<9223372036854775808∧∀ k,k<m→Sh E n e (f k):=by
 unfold Sh at h
 cases hg:E.ti.get t with
 | none=>rw [hg] at hi;cases hi
 | some i =>
  rw [hg] at hi h
  have hi:i.desc = .slice e:=Option.some.inj hi
  simp only [hi] at h
  obtain ⟨nb,m,f,h1,h2,h3,h4⟩:=h
  exact ⟨nb,m,f,h1,h2,Nat.lt_of_le_of_lt h3 (by decide),h4⟩
theorem Sh.struct {sz:Nat} {l:List (Nat×Nat)} (hi:(E.ti.get t).map (fun i=>(i.size,zm8 i.desc))=some (sz,some l)) (h:Sh E (n+1) t qs):qs.length=sz∧∀ p∈l,∀ s,szT E p.1=some s→Sh E n p.1 ((qs.drop p.2).take s):=by
 unfold Sh at h
 cases hg:E.ti.get t with
 | none=>rw [hg] at hi;cases hi
 | some i =>
  rw [hg] at hi h
  have hi:(i.size,zm8 i.desc)=(sz,some l):=Option.some.inj hi
  simp only [Prod.mk.injEq] at hi
  obtain ⟨h1,h2⟩:=hi
  cases hd:i.desc with
  | struct fs =>
   rw [hd] at h2
   simp only [hd] at h
   have h2:fs.toList.map (fun f=>(f.type,f.offset))=l:=Option.some.inj h2
   subst h2
   refine ⟨h.1.trans h1,fun p hp s hs=>?_⟩
   obtain ⟨f,hf,rfl⟩:=List.mem_map.1 hp
   obtain ⟨g,h3,h4⟩:=h.2 f hf
   unfold szT at hs
   rw [h3] at hs
   have:g.size=s:=Option.some.inj hs
   subst this
   exact h4
  | _=>rw [hd] at h2;cases h2
end
theorem zaH {α : Type} (d : α):∀ {m:Nat} {P:Nat→α → Prop},(∀ k,k<m→∃ x,P k x)→∃ l:List α,l.length=m∧∀ k,k<m→P k (l.getD k d)
 | 0,_,_=>⟨[],rfl,fun k hk=>absurd hk (Nat.not_lt_zero k)⟩
 | m+1,P,h=>by
  obtain ⟨l,h1,h2⟩:=zaH d (m:=m) (P:=P) (fun k hk=>h k (by omega))
  obtain ⟨x,hx⟩:=h m (by omega)
  refine ⟨l++[x],by simp [h1],fun k hk=>?_⟩
  rw [List.getD_eq_getElem?_getD]
  by_cases e:k<m
  ·rw [List.getElem?_append_left (by omega),←List.getD_eq_getElem?_getD];exact h2 k e
  ·have:k=m:=by omega
   subst this
   subst h1
   simpa using hx
end
noncomputable section
def zeG (g:Nat→Bool):VK→VK
 | []=>[]
 | (t,a)::l=>(t,bif a.only g then a else .junk)::zeG g l
theorem zcN {g:Nat→Bool}:∀ {F:VK} {t:Nat} {a:AV},ak (zeG g F) t=some a→∃ b,ak F t=some b∧a=bif b.only g then b else .junk
 | [],t,a,h=>by cases h
 | (x,b)::l,t,a,h=>by
  simp only [zeG,ak] at h ⊢
  cases hb:Nat.beq x t with
  | true =>
   rw [hb] at h
   simp only [cond_true,Option.some.injEq] at h ⊢
   exact ⟨b,rfl,h.symm⟩
  | false =>
   rw [hb] at h
   exact zcN h
theorem FRR.purgeA {E:Env} {S S':St} {Z Z':Nat→Prop} {j j':Nm} {F:VK} {T:Fr} {g:Nat→Bool} (h:FRR E S Z j F T) (hz:ZLe E S Z S' Z') (hj:∀ i b,g i=true→j i=some b→j' i=some b):FRR E S' Z' j' (zeG g F) T:=fun t a ha=>by
 obtain ⟨b,h1,rfl⟩:=zcN ha
 obtain ⟨v,h2,h3⟩:=h t b h1
 refine ⟨v,h2,?_⟩
 cases hg:b.only g with
 | true=>exact h3.mono hz hj hg
 | false=>exact .junk v
section
variable {E:Env} {N:Nat} {st:List Nat} {rd:Option Nat} {F:VK} {L:VS}
end
end
noncomputable section
def PV.plain:PV→Bool
 | .int _ _=>true
 | .bool _=>true
 | .str _=>true
 | _=>false
mutual
def AV.plainN:AV→Bool
 | .p x=>x.plain
 | .tup vs=>AV.plainNs vs
 | .agg vs=>AV.plainNs vs
 | .ref _ _=>true
 | .el _ _ _ _=>true
 | .sl _ _ _ _ _ _=>true
 | .acc nb _ _ _=>nb
 | .map _=>true
 | _=>false
def AV.plainNs:List AV→Bool
 | []=>true
 | a::l=>a.plainN&&AV.plainNs l
end
def VB.plainN:VB→Prop
 | .cells cs _=>AV.plainNs cs=true
 | .arr n _ f _=>∀ k,k<n→(f k).all PV.plain=true
 | .acc n _ f _=>∀ k,k<n→(f k).all PV.plain=true
 | .mapI _=>True
 | .hdr _ _ _ _=>False
 | .oarr _ n _ f _=>∀ k,k<n→(f k).all PV.plain=true
 | .mapA _ _ _=>False
 | .itr _=>True
 | .loop _ _ _ _ _ _ _=>False
def zbL:VS→Prop
 | []=>True
 | (_,v)::l=>v.plainN∧zbL l
theorem zbK:∀ {L:VS} {i:Nat} {v:VB},zbL L→bk L i=some v→v.plainN
 | [],i,v,_,h=>by cases h
 | (k,w)::l,i,v,ho,h=>by
  rw [zA] at h
  by_cases e:i=k
  ·rw [if_pos e] at h;cases h;exact ho.1
  ·rw [if_neg e] at h;exact zbK ho.2 h
section
variable {E:Env} {S:St} {Z Z':Nat→Prop} {j:Nm}
theorem PR.plain {p:PV} {v:Value} (h:PR E S Z p v) (ho:p.plain=true):PR E S Z' p v:=by
 cases h with
 | int k n=>exact .int k n
 | bool b=>exact .bool b
 | str s=>exact .str s
 | _=>simp [PV.plain] at ho
theorem PRs.plain:∀ {p:List PV} {v:List Value},PRs E S Z p v→p.all PV.plain=true→PRs E S Z' p v
 | _,_,.nil,_=>.nil
 | _,_,.cons h hl,ho=>by
  simp only [List.all_cons,yw] at ho
  exact .cons (h.plain ho.1) (hl.plain ho.2)
mutual
theorem VR.plainN:∀ {a:AV} {v:Value},VR E S Z j a v→a.plainN=true→VR E S Z' j a v
 | _,_,.p h,ho=>.p (h.plain (by simpa [AV.plainN] using ho))
 | _,_,.agg hs h,ho=>.agg hs (h.plainNs (by simpa [AV.plainN] using ho))
 | _,_,.tup h,ho=>.tup (h.plainNs (by simpa [AV.plainN] using ho))
 | _,_,.ref h,_=>.ref h
 | _,_,.el h,_=>.el h
 | _,_,.sl h,_=>.sl h
 | _,_,.fn _ _,ho=>by simp [AV.plainN] at ho
 | _,_,.map h,_=>.map h
 | _,_,.yld _,ho=>by simp [AV.plainN] at ho
 | _,_,.accN,_=>.accN
 | _,_,.accE _ _ _,ho=>by simp [AV.plainN] at ho
 | _,_,.accC h,_=>.accC h
 | _,_,.lit _,ho=>by simp [AV.plainN] at ho
 | _,_,.junk _,ho=>by simp [AV.plainN] at ho
theorem VRs.plainNs:∀ {a:List AV} {v:List Value},VRs E S Z j a v→AV.plainNs a=true→VRs E S Z' j a v
 | _,_,.nil,_=>.nil
 | _,_,.cons h hl,ho=>by
  simp only [AV.plainNs,yw] at ho
  exact .cons (h.plainN ho.1) (hl.plainNs ho.2)
end
theorem BR.plainN {b:Nat} {vb:VB} (h:BR E S Z j b vb) (ho:vb.plainN):BR E S Z' j b vb:=by
 cases vb with
 | cells cs t=>obtain ⟨vs,h1,h2,h3⟩:=h;exact ⟨vs,h1,h2,h3.plainNs ho⟩
 | arr n sz f t=>obtain ⟨vs,g,h1,h2,h3,h4⟩:=h;exact ⟨vs,g,h1,h2,h3,fun k hk=>(h4 k hk).plain (ho k hk)⟩
 | loop st pd G N ps asg body=>exact ho.elim
 | acc n sz f t=>obtain ⟨vs,g,h1,h2,h3,h4⟩:=h;exact ⟨vs,g,h1,h2,h3,fun k hk=>(h4 k hk).plain (ho k hk)⟩
 | mapI f=>exact h
 | hdr n p xs t=>exact ho.elim
 | oarr w n sz f t=>obtain ⟨vs,g,h1,h2,h3,h4⟩:=h;exact ⟨vs,g,h1,h2,h3,fun k hk=>(h4 k hk).plain (ho k hk)⟩
 | mapA m p xs=>exact ho.elim
 | itr o=>exact h
theorem SR.plainN {L:VS} (h:SR E S Z' j L) (hp:zbL L) (hz:∀ b,Z b→Z' b):SR E S Z j L :=
 ⟨fun b hb=>h.zlt b (hz b hb),fun i b hb=>⟨(h.jlt i b hb).1,fun hb2=>(h.jlt i b hb).2 (hz b hb2)⟩,h.inj,h.dom,fun i vb hi=>by
  rcases h.blk' i vb hi with hv | ⟨b,h1,h2⟩
  ·exact .inl hv
  ·exact .inr ⟨b,h1,h2.plainN (zbK hp hi)⟩,h.rom⟩
end
section
variable {E:Env} {N:Nat} {st:List Nat} {rd:Option Nat} {Q:zK}
theorem znh {ops:Array Oper} {o:Oper} {F F0:VK} {L L0:VS} {c:Call} {f:Operand} {g:FuncId} {first cap args:List AV} {R:AV→VS→Prop} (hw:Vw E [] F L F0 L0) (hC:VC E [] g (first++(args++cap)) [] R) (hR:∀ a L',R a L'→a.plainN=true∧zbL L') (hg:vgd ops F o.guard=some true) (hd:zI o.dst N=true)
  (hop:o.op = .call c) (hc:c.callee = .value f) (hf:av F0 f=some (.fn g first cap)) (ha:avs F0 c.args.toList=some args) (hon:z06 (olds []) (first++(args++cap))=true)
  {T:Fr} {S:St} {Z:Nat→Prop} {j:Nm} (h1:T.n=N) (h2:SR E S Z j L) (h3:FRR E S Z j F T) (h4:S.low≤S.size) :
  ∃ n T' S' jn a L',(∀ m,n≤m→zq E (run E m).call (run E m).code ops o T S=some (T',S'))∧R a L'∧T'.n=N∧SR E S' Z jn (z4j (z1p [] (nx L)) L'++z2V [] L)∧FRR E S' Z jn (zL o.dst (a.ren (z1p [] (nx L))) F) T'∧Ex S Z j S' Z jn∧S'.low≤S'.size ∧
   (∀ i b,j i=some b→jn i=some b)∧(S.low≤S.size→S'.low=S.low):=by
 obtain ⟨Z1,j1,w1,w2,w3,_⟩:=hw T S Z j h2 h3
 obtain ⟨v,k1,k2⟩:=w2.ev hf
 obtain ⟨vs,k3,k4⟩:=w2.evs ha
 cases k2 with
 | fn q1 q2 =>
  rename_i fa ca
  have hvs:VRs E S Z1 j1 (first++(args++cap)) (fa.toList++(vs++ca.toList)):=q1.append (k4.append q2)
  have hvc:=hvs.ren (r:=rnk []) (ZLe.refl S Z1) (z2i (ps:=[]) rfl) hon
  rw [z8k _ hon] at hvc
  obtain ⟨n,u,S',h5,a,L',Z2,j2,h6,h7,h8,h9,h10,h11⟩:=hC S Z1 (z5r [] j1) _ (w1.sel (ps:=[]) rfl rfl) hvc h4
  obtain ⟨p1,p2⟩:=hR a L' h11
  have hS':SR E S' Z j2 L':=h6.plainN p2 fun b hb=>h8.zz b (w3.zz b hb)
  have hex:Ex S Z (z5r [] j) S' Z j2:=⟨h8.size,fun b hb hn=>h8.old b hb fun k hk=>(by cases hk),fun b hb=>hb,fun b hb=>.inl hb,fun i b hi=>(h8.jn i b hi).elim .inl fun ⟨i',h⟩=>(by cases h),h8.low.1,fun m q1 q2 q3=>h8.low.2 m q1 q2 fun k b hk=>(by cases hk)⟩
  obtain ⟨jn,m1,m2,m3,m4⟩:=z6K (stc:=[]) (ps:=[]) h2 rfl rfl rfl hS' hex (fun i hi=>by cases hi)
  have hu:VR E S' Z jn (a.ren (z1p [] (nx L))) u:=(h7.plainN p1).ren (ZLe.refl _ _) (fun k b _ hk=>m4 k b hk) (z4u a)
  obtain ⟨T',t1,t2,t3⟩:=z0I h1 (h3.mono' (m2.zle h2) m3) hd hu
  refine ⟨n,T',S',jn,a,L',fun m hm=>?_,h11,t2,m1,t3,m2,h9,m3,fun hl=>Nat.le_antisymm h8.low.1 (h8.low.2 S.low (ym _) hl fun k b hk=>by cases hk)⟩
  unfold zq
  rw [z1r hg h3,hop]
  have:zR E (run E m).call (run E m).code T S (.call c)=some (u,S'):=by
   show ob (T.evs c.args.toList) _=_
   rw [k3,hc]
   show ob (T.ev f) _=_
   rw [k1]
   exact h5 m hm
  show ob (zR E _ _ T S (.call c)) (z3P T o.dst)=_
  rw [this]
  show ob (T.put o.dst u) _=_
  rw [t1];rfl
theorem VSt.look {ops:Array Oper} {o:Oper} {rest:List Oper} {K:List KI} {F F0:VK} {L L0:VS} {c:Call} {f:Operand} {g:FuncId} {first cap args:List AV} {R:AV→VS→Prop} (hw:Vw E [] F L F0 L0) (hg:vgl ops F o.guard=some true) (hd:zI o.dst N=true)
  (hop:o.op = .call c) (hc:c.callee = .value f) (hf:av F0 f=some (.fn g first cap)) (ha:avs F0 c.args.toList=some args) (hon:z06 (olds []) (first++(args++cap))=true) (hC:VC E [] g (first++(args++cap)) [] R) (hR:∀ a L',R a L'→a.plainN=true∧zbL L')
  (h:∀ a L',R a L'→VSt.H E N st rd Q (.ops ops rest K (zL o.dst (a.ren (z1p [] (nx L))) F) (z4j (z1p [] (nx L)) L'++z2V [] L))):VSt.H E N st rd Q (.ops ops (o::rest) K F L):=by
 intro T S Z j h1 h2 h3 h4
 obtain ⟨n,T',S',jn,a,L',k1,k2,k3,k4,k5,k6,k7,k8,_⟩:=znh hw hC hR (z1q hg) hd hop hc hf ha hon h1 h2 h3 h4
 obtain ⟨n2,r,q1,F2,L2,Z2,j2,q2,q3⟩:=h a L' k2 T' S' Z jn k3 k4 k5 k7
 refine ⟨n+n2,r,fun m hm=>?_,F2,L2,Z2,j2,⟨q2.n,q2.sr,q2.fr,k6.trans q2.ex,q2.low,Stay.trans (fun i _ b hb=>k8 i b hb) q2.stay⟩,q3⟩
 show ob (zq E _ _ ops o T S) _=_
 rw [k1 m (by omega)]
 exact q1 m (by omega)
end
end
end
section
noncomputable section
section
variable {E:Env} {N:Nat} {st:List Nat} {rd:Option Nat} {tb:Tab} {Q:zK}
end
end
noncomputable section
def kpF (ps:List (Nat×Nat)) (F:VK):List Nat→VK
 | []=>[]
 | t::ts=>match ak F t with
  | some a=>(t,a.ren (rnk ps))::kpF ps F ts
  | none=>kpF ps F ts
def zqb (ps:List (Nat×Nat)) (F:VK):List Nat→Bool
 | []=>true
 | t::ts=>match ak F t with
  | some a=>a.only (olds ps)&&zqb ps F ts
  | none=>false
def kpS (ps:List (Nat×Nat)) (L:VS):List (Nat×Nat)→VS
 | []=>[]
 | (k,i)::l=>match bk L i with
  | some vb=>(k,zn7 (rnk ps) vb)::kpS ps L l
  | none=>kpS ps L l
def zkV (ps:List (Nat×Nat)) (L:VS):List (Nat×Nat)→Bool
 | []=>true
 | (_,i)::l=>match bk L i with
  | some vb=>zg4 (olds ps) vb&&zkV ps L l
  | none=>false
theorem zps {ps:List (Nat×Nat)} {F:VK}:∀ {ts:List Nat},zqb ps F ts=true→∀ p∈kpF ps F ts,∃ a,ak F p.1=some a∧a.only (olds ps)=true∧AImp (a.ren (rnk ps)) p.2
 | [],_,p,hp=>by cases hp
 | t::ts,h,p,hp=>by
  simp only [zqb] at h
  simp only [kpF] at hp
  cases ha:ak F t with
  | none=>rw [ha] at h;cases h
  | some a =>
   rw [ha] at h hp
   simp only [yw] at h
   rcases List.mem_cons.1 hp with rfl | hp
   ·exact ⟨a,ha,h.1,AImp.refl _⟩
   ·exact zps h.2 p hp
theorem zlZ {ps:List (Nat×Nat)} {L:VS}:∀ {l:List (Nat×Nat)},zkV ps L l=true→zdc ps L l=some (kpS ps L l)
 | [],_=>rfl
 | (k,i)::l,h=>by
  simp only [zkV] at h
  simp only [zdc,kpS]
  cases hb:bk L i with
  | none=>rw [hb] at h;cases h
  | some vb =>
   rw [hb] at h
   simp only [yw] at h
   rw [zlZ h.2]
   simp only [h.1,cond_true]
theorem Vw.kp {E:Env} {st:List Nat} {F:VK} {L:VS} (ts:List Nat) (ps:List (Nat×Nat)) (h:(zbI ps&&((st.all fun i=>Option.rec false (fun k=>Nat.beq k i) (pl ps i))&&(zqb ps F ts&&zkV ps L ps)))=true):Vw E st F L (kpF ps F ts) (kpS ps L ps):=by
 simp only [yw] at h
 obtain ⟨h1,h2,h3,h4⟩:=h
 exact z0F (ps:=ps) ⟨h1,h2,zps h3,_,zlZ h4,LImp.refl _⟩
def zdQ {R:Type} (a:AV) (k:AV→R):R:=match a with
 | .p x=>k (.p x)
 | .ref i o=>z0L i fun i=>k (.ref i o)
 | .el i s q o=>z0L i fun i=>k (.el i s q o)
 | .sl i s o n c e=>z0L i fun i=>k (.sl i s o n c e)
 | .map i=>z0L i fun i=>k (.map i)
 | .yld i=>z0L i fun i=>k (.yld i)
 | .acc nb i s n=>z0L i fun i=>k (.acc nb i s n)
 | .agg cs=>k (.agg cs)
 | .fn f x y=>k (.fn f x y)
 | .tup vs=>k (.tup vs)
 | .lit b=>k (.lit b)
 | .junk=>k .junk
theorem zgh {R:Type} (a:AV) (k:AV→R):zdQ a k=k a:=by
 cases a <;> first | rfl | (unfold zdQ;simp only [z0K])
def z4e {R:Type}:List AV→(List AV→R)→R
 | [],k=>k []
 | a::l,k=>zdQ a fun a=>z4e l fun l=>k (a::l)
theorem z6H {R:Type}:∀ (l:List AV) (k:List AV→R),z4e l k=k l
 | [],_=>rfl
 | a::l,k=>by
  unfold z4e
  rw [zgh,z6H l]
def zfj {R:Type} (a:AV) (k:AV→R):R:=match a with
 | .agg cs=>z4e cs fun cs=>k (.agg cs)
 | .tup vs=>z4e vs fun vs=>k (.tup vs)
 | .fn f x y=>z4e x fun x=>z4e y fun y=>k (.fn f x y)
 | .p x=>k (.p x)
 | .ref i o=>z0L i fun i=>k (.ref i o)
 | .el i s q o=>z0L i fun i=>k (.el i s q o)
 | .sl i s o n c e=>z0L i fun i=>k (.sl i s o n c e)
 | .map i=>z0L i fun i=>k (.map i)
 | .yld i=>z0L i fun i=>k (.yld i)
 | .acc nb i s n=>z0L i fun i=>k (.acc nb i s n)
 | .lit b=>k (.lit b)
 | .junk=>k .junk
theorem zco {R:Type} (a:AV) (k:AV→R):zfj a k=k a:=by
 cases a <;> first | rfl | (unfold zfj;simp only [z6H,z0K])
def z9k (seen:List Nat):VK→VK
 | []=>[]
 | (t,a)::l=>bif seen.any (fun x=>Nat.beq x t) then z9k seen l else (t,a)::z9k (t::seen) l
def z4V {R:Type} (seen:List Nat):VK→(VK→R)→R
 | [],k=>k []
 | (t,a)::l,k=>bif seen.any (fun x=>Nat.beq x t) then z4V seen l k else zfj a fun a=>z4V (t::seen) l fun l=>k ((t,a)::l)
theorem z5N {R:Type}:∀ (seen:List Nat) (F:VK) (k:VK→R),z4V seen F k=k (z9k seen F)
 | _,[],_=>rfl
 | seen,(t,a)::l,k=>by
  unfold z4V z9k
  cases seen.any (fun x=>Nat.beq x t) with
  | true=>exact z5N seen l k
  | false =>
   simp only [cond_false]
   rw [zco,z5N (t::seen) l]
theorem zaD:∀ {seen:List Nat} {F:VK} {t:Nat} {a:AV},ak (z9k seen F) t=some a→ak F t=some a∧(seen.any fun x=>Nat.beq x t)=false
 | _,[],_,_,h=>by cases h
 | seen,(s,b)::l,t,a,h=>by
  unfold z9k at h
  cases hs:seen.any (fun x=>Nat.beq x s) with
  | true =>
   rw [hs] at h
   simp only [cond_true] at h
   obtain ⟨h1,h2⟩:=zaD h
   refine ⟨?_,h2⟩
   simp only [ak]
   have:Nat.beq s t=false:=by
    cases hb:Nat.beq s t with
    | false=>rfl
    | true=>have:=zm hb;subst this;rw [h2] at hs;cases hs
   rw [this];exact h1
  | false =>
   rw [hs] at h
   simp only [cond_false,ak] at h ⊢
   cases hb:Nat.beq s t with
   | true =>
    rw [hb] at h
    have:=zm hb;subst this
    exact ⟨h,hs⟩
   | false =>
    rw [hb] at h
    simp only [cond_false] at h
    obtain ⟨h1,h2⟩:=zaD h
    refine ⟨h1,?_⟩
    rw [List.any_cons] at h2
    exact (Bool.or_eq_false_iff.1 h2).2
def z8S {R:Type}:List (Nat×AV)→(List (Nat×AV)→R)→R
 | [],k=>k []
 | (i,a)::l,k=>zfj a fun a=>z8S l fun l=>k ((i,a)::l)
theorem z9P {R:Type}:∀ (l:List (Nat×AV)) (k:List (Nat×AV)→R),z8S l k=k l
 | [],_=>rfl
 | (i,a)::l,k=>by
  unfold z8S
  rw [zco,z9P l]
def ziV {R:Type} (b:VB) (k:VB→R):R:=match b with
 | .cells cs t=>z4e cs fun cs=>k (.cells cs t)
 | .arr n sz f t=>k (.arr n sz f t)
 | .loop st pd G N ps asg body=>k (.loop st pd G N ps asg body)
 | .acc n sz f t=>k (.acc n sz f t)
 | .mapI f=>k (.mapI f)
 | .hdr n p xs t=>z8S xs fun xs=>k (.hdr n p xs t)
 | .oarr w n sz f t=>k (.oarr w n sz f t)
 | .mapA m p xs=>z8S xs fun xs=>k (.mapA m p xs)
 | .itr o=>k (.itr o)
theorem ziU {R:Type} (b:VB) (k:VB→R):ziV b k=k b:=by
 cases b <;> first | rfl | (unfold ziV;simp only [z6H,z9P])
def z8V {R:Type}:VS→(VS→R)→R
 | [],k=>k []
 | (i,b)::l,k=>z0L i fun i=>ziV b fun b=>z8V l fun l=>k ((i,b)::l)
theorem zcn {R:Type}:∀ (L:VS) (k:VS→R),z8V L k=k L
 | [],_=>rfl
 | (i,b)::l,k=>by
  unfold z8V
  rw [z0K,ziU,zcn l]
def z8T {R:Type} (s:VSt) (k:VSt→R):R:=match s with
 | .code c K F L=>z4V [] F fun F=>z8V L fun L=>k (.code c K F L)
 | .ops os rest K F L=>z4V [] F fun F=>z8V L fun L=>k (.ops os rest K F L)
 | .dops os bs ks rest i K F L=>z4V [] F fun F=>z8V L fun L=>k (.dops os bs ks rest i K F L)
 | .ex e K F L=>z8V L fun L=>k (.ex e K F L)
def z2w (s:VSt):VSt:=match s with
 | .code c K F L=>.code c K (z9k [] F) L
 | .ops os rest K F L=>.ops os rest K (z9k [] F) L
 | .dops os bs ks rest i K F L=>.dops os bs ks rest i K (z9k [] F) L
 | .ex e K F L=>.ex e K F L
theorem z9Q {R:Type} (s:VSt) (k:VSt→R):z8T s k=k (z2w s):=by
 cases s <;> (unfold z8T z2w;simp only [z5N,zcn])
theorem zaC {E:Env} {S:St} {Z:Nat→Prop} {j:Nm} {F:VK} {T:Fr} (h:FRR E S Z j F T):FRR E S Z j (z9k [] F) T:=fun t a ha=>h t a (zaD ha).1
theorem z7D {E:Env} {N:Nat} {st:List Nat} {rd:Option Nat} {Q:zK} {s:VSt} (h:(z2w s).H E N st rd Q):s.H E N st rd Q:=by
 cases s with
 | code c K F L =>
  intro T S Z j h1 h2 h3 h4
  obtain ⟨n,r,h5,F',L',Z',j',h6,h7⟩:=h T S Z j h1 h2 (zaC h3) h4
  exact ⟨n,r,h5,F',L',Z',j',⟨h6.n,h6.sr,h6.fr,h6.ex,h6.low,h6.stay⟩,h7⟩
 | ops os rest K F L =>
  intro T S Z j h1 h2 h3 h4
  obtain ⟨n,r,h5,F',L',Z',j',h6,h7⟩:=h T S Z j h1 h2 (zaC h3) h4
  exact ⟨n,r,h5,F',L',Z',j',⟨h6.n,h6.sr,h6.fr,h6.ex,h6.low,h6.stay⟩,h7⟩
 | dops os bs ks rest i K F L =>
  intro T S Z j D r0 h1 h2 h3 h4 h5 h6 h7
  obtain ⟨n,r,k5,F',L',Z',j',k6,k7⟩:=h T S Z j D r0 h1 h2 (zaC h3) h4 h5 h6 h7
  exact ⟨n,r,k5,F',L',Z',j',⟨k6.n,k6.sr,k6.fr,k6.ex,k6.low,k6.stay⟩,k7⟩
 | ex e K F L=>exact h
theorem VSt.go {E:Env} {N:Nat} {st:List Nat} {rd:Option Nat} {Q:zK} {tb:Tab} (hT:zM E tb=true) (z:Bool) (sp:List Nat) (n:Nat) {obs:List Prop} {s s':VSt}
  (h:z8T s (fun s1=>match zd0 tb N st z sp n [] s1 with | (o,s2)=>z8T s2 fun s3=>(o,s3))=(obs,s')) (ho:AllP obs) (hs:s'.H E N st rd Q):s.H E N st rd Q:=by
 rw [z9Q] at h
 have h2:(zd0 tb N st z sp n [] (z2w s)).1=obs∧z2w (zd0 tb N st z sp n [] (z2w s)).2=s':=by
  revert h
  generalize zd0 tb N st z sp n [] (z2w s)=q
  obtain ⟨o,s2⟩:=q
  intro h
  have h:z8T s2 (fun s3=>(o,s3))=(obs,s'):=h
  rw [z9Q] at h
  cases h;exact ⟨rfl,rfl⟩
 refine z7D (VSt.run hT z sp n (obs:=obs) (s':=(zd0 tb N st z sp n [] (z2w s)).2) ?_ ho (z7D ?_))
 ·rw [←h2.1]
 ·rw [h2.2];exact hs
theorem LImps.refl (L:VS):LImp L L:=LImp.refl L
theorem z0R {E:Env} {N:Nat} {st:List Nat} {rd:Option Nat} {Q:zK} {tb:Tab} (hT:zM E tb=true) {ti tn tc ts idb id2 r1 r2:Nat} {t1 t2 t3 t4 ty1 ty2 ty3:TypeId} {p1 p2 p3:String} {a1 a2 a3:Array Edge} {body:Code} {K:List KI} {F:VK} {L:VS} (n:Nat) (hn:n<9223372036854775808) (kept:List Nat) (U:Nat→VK) (M:Nat→VS) (P:Nat→Prop)
  (hN:(Nat.blt tc N&&(Nat.blt ts N&&Nat.blt ti N))=true) (hne:(!Nat.beq tc ti&&(!Nat.beq tc tn&&(!Nat.beq ts ti&&(!Nat.beq ts tn && !Nat.beq ti tn))))=true)
  (hk:(kept.all fun t=>!Nat.beq ti t&&(!Nat.beq ts t&&Option.rec false (fun _=>true) (ak F t)))=true) (hU:∀ k,((U k).all fun p=>!Nat.beq ti p.1 && !Nat.beq ts p.1)=true)
  (hi:ak F ti=some (nv 0)) (hnn:ak F tn=some (nv n)) (hU0:∀ p∈U 0,∃ a,ak F p.1=some a∧AImp a p.2) (hL:LImp L (M 0)) (hP:P 0)
  (hb:∀ k,k<n→P k→VSt.H E N st rd Q (.code body (.block id2 :: .inv (fun F' L'=>Vw E st F' L' ((ti,nv k)::(tn,nv n)::(U (k+1)++kept.filterMap fun t=>(ak F t).map (Prod.mk t))) (M (k+1))∧P (k+1)) :: .block idb::K) ((tc,.p (.bool true))::(ti,nv k)::(tn,nv n)::(U k++kept.filterMap fun t=>(ak F t).map (Prod.mk t))) (M k)))
  (he:P n→VSt.H E N st rd Q (.ex .normal K ((tc,.p (.bool false))::(ti,nv n)::(tn,nv n)::(U n++kept.filterMap fun t=>(ak F t).map (Prod.mk t))) (M n))) :
  VSt.H E N st rd Q (.code (.loop (.seq (.region r1 #[⟨some tc,.binOp .lss t1 (.tmp ti) (.tmp tn) t2,ty1,p1,a1,none⟩] false)
   (.seq (.cond (.tmp tc) .skip (.exit idb)) (.seq (.block id2 body) (.region r2 #[⟨some ts,.binOp .add t3 (.tmp ti) (.const (.int .i64 1)) t4,ty2,p2,a2,none⟩,⟨some ti,.move (.tmp ts),ty3,p3,a3,none⟩] false))))) (.block idb::K) F L):=by
 have hmem:∀ p∈(kept.filterMap fun t=>(ak F t).map (Prod.mk t)),p.1∈kept∧ak F p.1=some p.2:=by
  intro p hp
  obtain ⟨t,h1,h2⟩:=List.mem_filterMap.1 hp
  cases ha:ak F t with
  | none=>rw [ha] at h2;cases h2
  | some a=>rw [ha] at h2;cases h2;exact ⟨h1,ha⟩
 refine z6N hT n hn (fun k=>U k++kept.filterMap fun t=>(ak F t).map (Prod.mk t)) M P hN hne (fun k=>?_) ?_ hP hb he
 ·rw [List.all_append,hU k,Bool.true_and,List.all_eq_true]
  intro p hp
  have h1:=List.all_eq_true.1 hk p.1 (hmem p hp).1
  simp only [yw] at h1
  simp only [yw]
  exact ⟨h1.1,h1.2.1⟩
 ·refine Vw.trans (F0:=((ti,nv 0)::(tn,nv n)::(U 0++kept.filterMap fun t=>(ak F t).map (Prod.mk t)))) (L0:=L) ?_ (Vw.imp hL)
  intro T S Z j h1 h2
  refine ⟨Z,j,h1,fun t a ha=>?_,Ex.refl _ _ _,Stay.refl _ _⟩
  have hin:=z4k ha
  rcases List.mem_cons.1 hin with e | hin
  ·cases e;exact h2 _ _ hi
  rcases List.mem_cons.1 hin with e | hin
  ·cases e;exact h2 _ _ hnn
  rcases List.mem_append.1 hin with hin | hin
  ·obtain ⟨b,h3,h4⟩:=hU0 _ hin
   obtain ⟨v,h5,h6⟩:=h2 _ _ h3
   exact ⟨v,h5,h4 _ _ _ _ _ h6⟩
  ·exact h2 _ _ (hmem _ hin).2
theorem z0X {F:VK}:∀ p∈([]:VK),∃ a,ak F p.1=some a∧AImp a p.2:=fun p h=>by cases h
theorem z2s {F F0:VK} {t:Nat} {a a0:AV} (h:ak F t=some a) (hi:AImp a a0) (hl:∀ p∈F0,∃ a,ak F p.1=some a∧AImp a p.2):∀ p∈(t,a0)::F0,∃ a,ak F p.1=some a∧AImp a p.2:=fun p hp=>by
 rcases List.mem_cons.1 hp with rfl | hp
 ·exact ⟨a,h,hi⟩
 ·exact hl p hp
theorem AllP.n:AllP []:=trivial
theorem AllP.c {p:Prop} {l:List Prop} (h:p) (hl:AllP l):AllP (p::l):=by
 cases l with
 | nil=>exact h
 | cons q l=>exact ⟨h,hl⟩
def srt (n:Nat) (p:Nat→Int):List Int:=z6r ((List.range n).map p)
theorem zhs (n:Nat) (p:Nat→Int):(srt n p).length=n:=by
 unfold srt z6r
 rw [List.length_mergeSort,List.length_map,List.length_range]
def zj2 (p:Nat→Int):Nat→List PV:=fun k=>[.int .i64 (p k)]
theorem z9N:∀ (zs:List Int),z5K (zs.map (.int .i64))=some zs
 | []=>rfl
 | z::zs=>by
  show ob (some z) (fun n=>ob (z5K (zs.map (.int .i64))) fun l=>some (n::l))=_
  rw [z9N zs];rfl
theorem zgd {E:Env} {S:St} {Z:Nat→Prop} {n:Nat} {p:Nat→Int} {vs:List Value} {g:Nat→List Value} (hl:vs.length=n*1) (hc:∀ k,k<n→cut vs (k*1) 1=some (g k)) (hp:∀ k,k<n→PRs E S Z (zj2 p k) (g k)):vs=((List.range n).map p).map (Value.int .i64):=by
 refine List.ext_getElem? fun k=>?_
 by_cases hk:k<n
 ·have h1:=hp k hk
  have h2:=hc k hk
  obtain ⟨h3,h4⟩:=ze h2
  have h4:g k=(vs.drop (k*1)).take 1:=(Option.some.inj h4).symm
  rw [h4] at h1
  have h5:(vs.drop (k*1)).take 1=[vs[k]'(by omega)]:=by
   rw [Nat.mul_one,List.drop_eq_getElem_cons (by omega),List.take_succ_cons,List.take_zero]
  rw [h5] at h1
  cases h1 with
  | cons h6 h7 =>
   cases hv:vs[k]'(by omega) with
   | int kk x =>
    rw [hv] at h6
    cases h6
    rw [List.getElem?_eq_getElem (by omega),hv]
    simp [hk]
   | _=>rw [hv] at h6;cases h6
 ·rw [List.getElem?_eq_none (by omega),List.getElem?_eq_none (by simp;omega)]
theorem zo1 {zs:List Int} {k:Nat} (hk:k<zs.length):cut (zs.map (Value.int .i64)) (k*1) 1=some [Value.int .i64 (zs.getD k 0)]:=by
 unfold cut
 have:Nat.ble (Nat.add (k*1) 1) (zs.map (Value.int .i64)).length=true:=by
  rw [List.length_map];exact Nat.ble_eq_true_of_le (by show k*1+1≤_;omega)
 rw [this]
 show some _=some _
 rw [Nat.mul_one,List.drop_eq_getElem_cons (by rw [List.length_map];exact hk),List.take_succ_cons,List.take_zero,List.getElem_map,List.getD_eq_getElem?_getD,List.getElem?_eq_getElem hk];rfl
theorem zr6 {α : Type} {x y : α}:bf true x y=x:=rfl
theorem zr7 {α : Type} {x y : α}:bf false x y=y:=rfl
theorem zhu {E:Env} {f:FuncId} (hs:E.sort=some f) (hh:Option.rec true (fun h=>!Nat.beq f h) E.hook=true) {S:St} {Z:Nat→Prop} {j:Nm} {L:VS} {i b n:Nat} {p:Nat→Int} {t:TypeId} {cap:Nat} {sp:Option Nat} {w:VB} (hS:SR E S Z j L) (hi:bk L i=some w) (hj:j i=some b)
  (hn0:n≠0) (hn:n<4611686018427387904) {vs:List Value} (hc:S.cells b=some (vs,t)) (hvs:vs=((List.range n).map p).map (Value.int .i64)) (hl:S.low≤S.size) (vb:VB) (hvb:∀ S',S'.cells b=some ((srt n p).map (Value.int .i64),t)→BR E S' Z j b vb) :
  ∃ m v S',(∀ k,m≤k→(run E k).call f [.slice (some ⟨b,0,sp⟩) n cap] S=some (v,S'))∧∃ Z' j',SR E S' Z' j' (up L i vb)∧VR E S' Z' j' (.tup []) v∧Ex S Z j S' Z' j'∧S'.low≤S'.size∧j'=j:=by
 have hlen:vs.length=n:=by rw [hvs];simp
 have hsz:((srt n p).map (Value.int .i64)).length=n:=by rw [List.length_map,zhs]
 have hcut:cut vs 0 n=some vs:=by
  unfold cut
  rw [show Nat.ble (Nat.add 0 n) vs.length=true from Nat.ble_eq_true_of_le (by show 0+n≤_;omega)]
  show some _=some _
  rw [List.drop_zero,←hlen,List.take_length]
 have hpaste:paste vs 0 ((srt n p).map (Value.int .i64))=some ((srt n p).map (Value.int .i64)):=by
  unfold paste
  rw [hsz,show Nat.ble (Nat.add 0 n) vs.length=true from Nat.ble_eq_true_of_le (by show 0+n≤_;omega)]
  show some _=some _
  rw [List.take_zero,List.nil_append,List.drop_eq_nil_of_le (by show _≤0+n;omega),List.append_nil]
 refine ⟨1,.tuple #[],S.put b (.cells ((srt n p).map (Value.int .i64)) t),fun k hk=>?_,Z,j,hS.put hi hj (hvb _ ?_),.tup .nil,Ex.put hS hj _,z3u hl,rfl⟩
 ·obtain ⟨q,rfl,_⟩:=zh hk
  have hho:z2E E f [.slice (some ⟨b,0,sp⟩) n cap]=false:=by
   unfold z2E
   cases hk:E.hook with
   | none=>rfl
   | some h=>show (Nat.beq f h&&_)=false;rw [show ([Value.slice (some ⟨b,0,sp⟩) n cap]:List Value).isEmpty=false from rfl,Bool.and_false]
  have hsr:z4T E f=true:=by
   unfold z4T
   rw [hs]
   exact Nat.beq_refl f
  have hso:z0A E f=true:=by unfold z0A;rw [hsr];rfl
  show bf (z2E E f _) _ (bf (z0A E f) (bf (z4T E f) (zfQ _ S) _) _)=_
  rw [hho,hso,hsr,zr7,zr6,zr6]
  show bf (Nat.beq n 0) _ (ob (S.cells b) fun cs=>gd (Nat.blt n 4611686018427387904) (ob (ob (cut cs.1 0 n) z5K) fun zs=>ob (paste cs.1 0 ((z6r zs).map (.int .i64))) fun c'=>some (Value.tuple #[],S.put b (.cells c' cs.2))))=_
  rw [z0B hn0,hc]
  show gd (Nat.blt n 4611686018427387904) (ob (ob (cut vs 0 n) z5K) fun zs=>ob (paste vs 0 ((z6r zs).map (.int .i64))) fun c'=>some (Value.tuple #[],S.put b (.cells c' t)))=_
  rw [show Nat.blt n 4611686018427387904=true by simpa using hn,hcut]
  show (ob (z5K vs) fun zs=>ob (paste vs 0 ((z6r zs).map (.int .i64))) fun c'=>some (Value.tuple #[],S.put b (.cells c' t)))=_
  have h7:z5K vs=some ((List.range n).map p):=by rw [hvs];exact z9N _
  rw [h7]
  show (ob (paste vs 0 ((srt n p).map (.int .i64))) fun c'=>some (Value.tuple #[],S.put b (.cells c' t)))=_
  rw [hpaste];rfl
 ·unfold St.cells
  rw [z0q];rfl
theorem zo8 {E:Env} {S:St} {Z:Nat→Prop} {b n:Nat} {zs:List Int} {t:TypeId} (hz:zs.length=n) (hc:S.cells b=some (zs.map (Value.int .i64),t)):∃ vs,∃ g:Nat→List Value,S.cells b=some (vs,t)∧vs.length=n*1∧(∀ k,k<n→cut vs (k*1) 1=some (g k))∧∀ k,k<n→PRs E S Z (zj2 (fun k=>zs.getD k 0) k) (g k) :=
 ⟨_,fun k=>[Value.int .i64 (zs.getD k 0)],hc,by rw [List.length_map,hz,Nat.mul_one],fun k hk=>zo1 (by omega),fun k _=>.cons (.int _ _) .nil⟩
theorem VC.sort {E:Env} {f:FuncId} (hs:E.sort=some f) (hh:Option.rec true (fun h=>!Nat.beq f h) E.hook=true) {n c ex:Nat} {p:Nat→Int} {t:TypeId} (hn0:0<n) (hn:n<4611686018427387904) :
  VC E [0] f [.sl 0 1 0 n c ex] [(0,.arr n 1 (zj2 p) t)] (fun a L=>a = .tup []∧L=[(0,.arr n 1 (zj2 fun k=>(srt n p).getD k 0) t)]):=by
 intro S Z j vs hS hv hl
 cases hv with
 | cons h1 h2 =>
  cases h2
  cases h1 with
  | sl hj =>
   rename_i b
   obtain ⟨b',hj',us,g,h3,h4,h5,h6⟩:=hS.blk 0 _ rfl id
   rw [hj] at hj';cases hj'
   obtain ⟨m,v,S',k1,Z',j',k2,k3,k4,k5,k6⟩:=zhu (cap:=c) (sp:=bif Nat.beq ex 0 then some 0 else none) hs hh hS rfl hj (by omega) hn h3 (zgd h4 h5 h6) hl (.arr n 1 (zj2 fun k=>(srt n p).getD k 0) t) (fun S' hc=>zo8 (zhs n p) hc)
   exact ⟨m,v,S',by rw [Nat.zero_mul];exact k1,.tup [],_,Z',j',k2,k3,k4,k5,by rw [k6];exact Stay.refl _ _,rfl,rfl⟩
end
noncomputable section
theorem BImp.hdr {n:Nat} {p p':Nat→PV} {xs xs':List (Nat×AV)} {t:TypeId} (h:∀ k,k<n→AImp (z5L p xs k) (z5L p' xs' k)):BImp (.hdr n p xs t) (.hdr n p' xs' t):=by
 refine ⟨?_,id⟩
 rintro E S Z j c ⟨vs,h1,h2,h3,h4⟩
 refine ⟨vs,h1,h2,h3,fun k hk=>?_⟩
 obtain ⟨v,h5,h6⟩:=h4 k hk
 exact ⟨v,h5,h k hk _ _ _ _ _ h6⟩
theorem BImp.oarr {n sz:Nat} {f:Nat→List PV} {w w':Bool} {g:Nat→List PV} {t:TypeId} (hw:w=w') (h:∀ k,k<n→f k=g k):BImp (.oarr w n sz f t) (.oarr w' n sz g t):=by
 subst hw
 refine ⟨?_,id⟩
 rintro E S Z j c ⟨vs,gg,h1,h2,h3,h4⟩
 exact ⟨vs,gg,h1,h2,h3,fun k hk=>by rw [←h k hk];exact h4 k hk⟩
section
variable {E:Env} {N:Nat} {st:List Nat} {rd:Option Nat} {Q:zK}
end
end
noncomputable section
theorem BImp.mapA {m m':Option Nat} {p p':Nat→Option PV} {xs xs':List (Nat×AV)} (hm:m'=m∨m'=none) (h:∀ k,zci p xs k=zci p' xs' k∧(zci p xs k=true→AImp (z5L (zqx p) xs k) (z5L (zqx p') xs' k))):BImp (.mapA m p xs) (.mapA m' p' xs'):=by
 refine ⟨?_,id⟩
 rintro E S Z j c ⟨l,h1,h2,h3⟩
 refine ⟨l,h1,⟨h2.1,fun n hn=>?_⟩,fun k=>?_⟩
 ·rcases hm with rfl | rfl
  ·exact h2.2 n hn
  ·cases hn
 ·obtain ⟨h4,h5⟩:=h3 k
  refine ⟨h4.trans (h k).1,fun v hv=>(h k).2 ?_ _ _ _ _ _ (h5 v hv)⟩
  rw [←h4,hv];rfl
end
noncomputable section
def LP (b:Nat) (S:St):Prop:=b<S.size∧∃ q,ob (S.heap.get b) z3e=some q
def PR3 {α : Type} (b:Nat) (g : α → St) (x:Option α):Prop:=∀ r,x=some r→LP b (g r)
section
variable {b:Nat} {α β : Type} {g : α → St} {S:St}
theorem p3o {x:Option β} {f : β → Option α} (h:∀ a,x=some a→PR3 b g (f a)):PR3 b g (ob x f):=fun r hr=>by
 obtain ⟨a,h1,h2⟩:=z8 hr
 exact h a h1 r h2
theorem p3g {c:Bool} {x:Option α} (h:PR3 b g x):PR3 b g (gd c x):=fun r hr=>h r (ze hr).2
theorem p3b {c:Bool} {x y:Option α} (h:PR3 b g x) (k:PR3 b g y):PR3 b g (bf c x y):=by cases c <;> assumption
theorem p3s {a : α} (h:LP b (g a)):PR3 b g (some a):=fun r hr=>by cases hr;exact h
theorem p3n:PR3 b g (none:Option α):=fun r hr=>by cases hr
theorem LP.new (h:LP b S) (o:Yg):LP b (S.new o):=by
 refine ⟨Nat.lt_succ_of_lt h.1,?_⟩
 rw [z0j,if_neg (Nat.ne_of_lt h.1)];exact h.2
theorem LP.put (h:LP b S) {c:Nat} {o:Yg} (k:b=c→∃ q,z3e o=some q):LP b (S.put c o):=by
 refine ⟨h.1,?_⟩
 rw [get_put]
 by_cases e:b=c
 ·rw [if_pos e];exact k e
 ·rw [if_neg e];exact h.2
theorem LP.ne_cells (h:LP b S) {c:Nat} {q:List Value×TypeId} (k:S.cells c=some q):b≠c:=by
 rintro rfl
 obtain ⟨q2,h2⟩:=h.2
 unfold St.cells at k
 cases hb:S.heap.get b with
 | none=>rw [hb] at h2;cases h2
 | some o =>
  rw [hb] at h2 k
  cases o <;> first | (cases h2;done) | (cases k;done)
theorem LP.ne_map (h:LP b S) {c:Nat} {q:List (Value×Value)} (k:ob (S.heap.get c) z8x=some q):b≠c:=by
 rintro rfl
 obtain ⟨q2,h2⟩:=h.2
 cases hb:S.heap.get b with
 | none=>rw [hb] at h2;cases h2
 | some o =>
  rw [hb] at h2 k
  cases o <;> first | (cases h2;done) | (cases k;done)
theorem LP.putC (h:LP b S) {c:Nat} {q:List Value×TypeId} (k:S.cells c=some q) (o:Yg):LP b (S.put c o):=h.put fun e=>absurd e (h.ne_cells k)
end
section
variable {b:Nat} {E:Env}
theorem zhH {S:St} {a:Addr} {c:List Value×TypeId} (hr:E.rom.get b=none) (h:rda E S a=some c):a.block=b→S.cells b=some c:=fun e=>by
 unfold rda rdc at h
 cases hs:a.spot with
 | none=>rw [hs] at h;rw [e,hr] at h;exact h
 | some q=>rw [hs] at h;rw [e,hr] at h;exact h
theorem z9A (hr:E.rom.get b=none) {e:LTy} {elem:TypeId} {s:Value} {new:List Value} {k:Nat} {S:St} (h:LP b S):PR3 b Prod.snd (z2a E e elem s new k S):=by
 unfold z2a
 refine p3o fun q _=>p3b (p3s h) (p3g ?_)
 cases q.1 with
 | none=>exact p3g (p3s (h.new _))
 | some a =>
  show PR3 b Prod.snd (z0W E e elem a q.2.1 q.2.2 new k S)
  unfold z0W
  refine p3o fun cs hcs=>p3g (p3b (p3o fun c hc=>p3o fun c' _=>p3s (h.putC hc _)) (p3o fun old _=>p3s ?_))
  refine LP.new ?_ _
  unfold St.spent
  cases a.spot with
  | none=>exact h
  | some q=>exact h.put fun e=>absurd e (fun e=>h.ne_cells (zhH hr hcs e.symm) rfl)
theorem zg0 (hr:E.rom.get b=none) {bi:Builtin} {ts:List TypeId} {args:List Value} {S:St} (h:LP b S):PR3 b Prod.snd (z2O E bi ts args S):=by
 cases bi with
 | len=>exact p3o fun _ _=>p3o fun _ _=>p3o fun _ _=>p3o fun _ _=>p3s h
 | cap=>exact p3o fun _ _=>p3o fun _ _=>p3o fun _ _=>p3o fun _ _=>p3o fun _ _=>p3g (p3s h)
 | append=>exact p3o fun _ _=>p3o fun _ _=>p3o fun _ _=>p3o fun _ _=>p3o fun _ _=>p3o fun _ _=>p3o fun _ _=>p3o fun _ _=>p3b (p3o fun _ _=>p3g (z9A hr h)) (p3g (p3o fun _ _=>p3o fun _ _=>z9A hr h))
 | copy =>
  refine p3o fun _ _=>p3o fun _ _=>p3o fun _ _=>p3o fun _ _=>p3o fun _ _=>p3o fun _ _=>p3o fun q _=>p3o fun _ _=>p3o fun _ _=>?_
  cases q.1 with
  | none=>exact p3g (p3s h)
  | some a=>exact p3o fun c hc=>p3g (p3o fun _ _=>p3s (h.putC hc _))
 | clear =>
  refine p3o fun _ _=>p3o fun _ _=>p3o fun _ _=>p3o fun _ _=>p3o fun q _=>p3b (p3s h) (p3o fun _ _=>p3o fun a _=>p3o fun c hc=>p3g (p3o fun _ _=>p3s (h.putC hc _)))
 | max =>
  show PR3 b Prod.snd (zjr args S)
  unfold zjr
  split
  ·exact p3s h
  ·exact p3n
 | min =>
  show PR3 b Prod.snd (zjq args S)
  unfold zjq
  split
  ·exact p3s h
  ·exact p3n
 | _=>exact p3n
variable {cF:z1f} {dF:z15}
theorem zna {S:St} {x:Option Value} (h:LP b S):PR3 b Prod.snd (zG S x):=p3o fun _ _=>p3s h
theorem zkq {S:St} {a:Addr} {vs:List Value} (h:LP b S):PR3 b id (S.store a vs):=by
 unfold St.store z3b
 cases a.spot with
 | none=>exact p3o fun c hc=>p3g (p3o fun _ _=>p3s (h.putC hc _))
 | some _=>exact p3n
theorem zdx {S:St} (h:LP b S) {c:Nat} {st:LoopState} {pd:Option Code} {T:Fr} {ps:List Tmp} {x y:Code}:LP b (S.put c (.loop st pd T ps x y)):=h.put fun _=>⟨_,rfl⟩
theorem zkr (hd:∀ c r T S,LP b S→PR3 b Res.S (dF c r T S)) {l:Nat} {args:List Value} {S:St} (h:LP b S):PR3 b Prod.snd (z6U dF l args S):=by
 unfold z6U
 exact p3o fun q _=>p3o fun T0 _=>p3o fun r1 h1=>p3g (p3o fun q1 _=>p3g (p3o fun r2 h2=>p3o fun q2 _=>p3s (zdx (hd _ _ _ _ (zdx (hd _ _ _ _ h _ h1)) _ h2))))
theorem znb (hr:E.rom.get b=none) (hc:∀ f args S,LP b S→PR3 b Prod.snd (cF f args S)) (hd:∀ c r T S,LP b S→PR3 b Res.S (dF c r T S)) {T:Fr} {S:St} (o:Op) (h:LP b S):PR3 b Prod.snd (zR E cF dF T S o):=by
 cases o with
 | alloc t=>exact p3o fun _ _=>p3s (h.new _)
 | box t x=>exact p3o fun _ _=>p3s (h.new _)
 | buildSlice t len parts=>exact p3o fun _ _=>p3o fun _ _=>p3o fun _ _=>p3o fun _ _=>p3g (p3o fun _ _=>p3s (h.new _))
 | store t a x =>
  refine p3o fun p _=>p3o fun v _=>p3o fun S' hS'=>p3s ?_
  unfold z0Y at hS'
  obtain ⟨i,_,h2⟩:=z8 hS'
  exact zkq h _ (ze h2).2
 | makeMap t r =>
  cases r with
  | none=>exact p3s (h.new _)
  | some _=>exact p3n
 | makeSlice t l c =>
  refine p3o fun _ _=>p3o fun _ _=>?_
  unfold z2p z6B
  exact p3o fun _ _=>p3o fun _ _=>p3o fun _ _=>p3o fun _ _=>p3o fun _ _=>p3g (p3s (h.new _))
 | mapUpdate t m k v =>
  refine p3o fun mv _=>p3o fun kv _=>p3o fun vv _=>p3o fun S' hS'=>p3s ?_
  have:PR3 b id (z1Y E t mv kv vv S):=by
   unfold z1Y
   exact p3o fun _ _=>p3o fun _ _=>p3o fun _ _=>p3o fun r hr=>p3o fun es hes=>p3g (p3o fun f _=>p3s (h.put fun e=>absurd e (h.ne_map hes)))
  exact this _ hS'
 | mapEntry t m k =>
  refine p3o fun mv _=>p3o fun kv _=>?_
  unfold z7f
  refine p3o fun _ _=>p3o fun _ _=>p3o fun _ _=>p3o fun _ _=>p3o fun r hr=>p3o fun es hes=>p3g (p3o fun f _=>?_)
  cases f with
  | none=>exact p3s (h.put fun e=>absurd e (h.ne_map hes))
  | some q=>exact p3s (h.put fun e=>absurd e (h.ne_map hes))
 | entryStore t m k v =>
  refine p3o fun mv _=>p3o fun kv _=>p3o fun vv _=>p3o fun S' hS'=>p3s ?_
  have:PR3 b id (z2C mv kv vv S):=by
   unfold z2C
   exact p3o fun r hr=>p3o fun es hes=>p3o fun _ _=>p3o fun _ _=>p3s (h.put fun e=>absurd e (h.ne_map hes))
  exact this _ hS'
 | range t x =>
  refine p3o fun v _=>?_
  unfold z6x
  refine p3o fun i _=>?_
  split
  ·exact p3s (h.new _)
  ·exact p3s (h.new _)
  ·exact p3n
 | next x str =>
  refine p3o fun v _=>?_
  unfold z6Y
  refine p3o fun a _=>p3g ?_
  unfold z3b
  cases a.spot with
  | some _=>exact p3n
  | none =>
   refine p3o fun o ho=>?_
   unfold zdr
   split
   ·exact p3s h
   ·refine p3b (p3s (h.put fun e=>?_)) (p3s h)
    obtain ⟨q,hq⟩:=h.2
    rw [e,ho] at hq
    cases hq
   ·exact p3n
 | call c =>
  show PR3 b Prod.snd (zeQ E cF dF T c S)
  unfold zeQ
  refine p3o fun args _=>?_
  split
  ·exact zg0 hr h
  ·refine p3o fun v _=>?_
   unfold z4J
   split
   ·unfold zji
    split
    ·exact hc _ _ _ h
    ·exact p3g (zkr hd h)
    ·exact p3n
   ·exact p3n
  ·exact p3n
 | _=>first | exact zna h | exact p3n
theorem zhR (hr:E.rom.get b=none) (hc:∀ f args S,LP b S→PR3 b Prod.snd (cF f args S)) (hd:∀ c r T S,LP b S→PR3 b Res.S (dF c r T S)) {ops:Array Oper} {o:Oper} {T:Fr} {S:St} (h:LP b S):PR3 b Prod.snd (zq E cF dF ops o T S):=by
 unfold zq
 refine p3o fun q _=>p3b (p3o fun r h1=>?_) ?_
 ·exact p3o fun T' _=>p3s (znb hr hc hd o.op h _ h1)
 ·exact p3o fun T' _=>p3s h
theorem zhS (hr:E.rom.get b=none) (hc:∀ f args S,LP b S→PR3 b Prod.snd (cF f args S)) (hd:∀ c r T S,LP b S→PR3 b Res.S (dF c r T S)) {ops:Array Oper} {dr:Bool} {T:Fr} {S:St} (h:LP b S):PR3 b Res.S (z7M E cF dF ops dr T S):=by
 have hseq:∀ (l:List Oper) T S,LP b S→PR3 b Prod.snd (z4P E cF dF ops l T S):=by
  intro l
  induction l with
  | nil=>exact fun T S h=>p3s h
  | cons o l ih=>exact fun T S h=>p3o fun r hr1=>ih _ _ (zhR hr hc hd h _ hr1)
 have hdr:∀ (l:List Oper) bs i D T S,LP b S→PR3 b Prod.snd (z4g E cF dF ops bs l i D T S):=by
  intro l
  induction l with
  | nil=>exact fun bs i D T S h=>p3s h
  | cons o l ih=>exact fun bs i D T S h=>p3o fun r hr1=>p3o fun D' _=>ih bs _ _ _ _ (zhR (S:=⟨S.heap,S.size,S.size⟩) hr hc hd h _ hr1)
 unfold z7M
 refine p3o fun r hr1=>p3s ?_
 cases dr with
 | true=>exact hdr _ _ _ _ _ _ h _ hr1
 | false=>exact hseq _ _ _ h _ hr1
theorem zbO {r:Res} {k:Fr→St→Option Res} (h:LP b r.S) (hk:PR3 b Res.S (k r.T r.S)):PR3 b Res.S (zl r k):=by
 unfold zl
 cases r.ex with
 | normal=>exact hk
 | exit _=>exact p3s h
 | ret=>exact p3s h
theorem zks (hc:∀ f args S,LP b S→PR3 b Prod.snd (cF f args S)) {f:Operand} {ps:List Tmp} {asg body:Code} {r:Option Nat} {T:Fr} {S:St} (h:LP b S):PR3 b Res.S (z2B cF f ps asg body r T S):=by
 unfold z2B
 exact p3g (p3o fun g _=>p3o fun q hq=>p3o fun u _=>p3g (p3o fun ex _=>p3s (zdx (hc _ _ _ (h.new _) _ hq))))
theorem zdi (hr:E.rom.get b=none) (hc:∀ f args S,LP b S→PR3 b Prod.snd (cF f args S)) (hd:∀ c r T S,LP b S→PR3 b Res.S (dF c r T S)) (c:Code):∀ r T S,LP b S→PR3 b Res.S (z1C E cF dF c r T S):=by
 induction c with
 | skip=>exact fun r T S h=>p3s h
 | region id ops dr=>exact fun r T S h=>zhS hr hc hd h
 | seq x y ihx ihy=>exact fun r T S h=>p3o fun q hq=>zbO (ihx r T S h _ hq) (ihy r _ _ (ihx r T S h _ hq))
 | cond t x y ihx ihy=>exact fun r T S h=>p3o fun q _=>p3b (ihx r T S h) (ihy r T S h)
 | block id x ih =>
  refine fun r T S h=>p3o fun q hq=>?_
  have h1:=ih r T S h _ hq
  unfold z8r
  cases q.ex with
  | normal=>exact p3s h1
  | exit k=>exact p3s h1
  | ret=>exact p3s h1
 | loop x ih=>exact fun r T S h=>p3o fun q hq=>zbO (ih r T S h _ hq) (hd _ _ _ _ (ih r T S h _ hq))
 | rangeFunc f ps asg x _ _=>exact fun r T S h=>zks hc h
 | exit id=>exact fun r T S h=>p3s h
 | scope x ih=>exact fun r T S h=>ih r T S h
 | label l=>exact fun r T S h=>p3s h
 | goto l=>exact fun r T S h=>p3n
 | ret=>exact fun r T S h=>p3s h
 | refuse w=>exact fun r T S h=>p3n
theorem zpb {f:Nat} {args:List Value} {S:St} (h:LP b S):PR3 b Prod.snd (znd E f args S):=by
 unfold znd mkE
 exact p3b (p3o fun q _=>p3b (p3s h) (p3s (h.new _))) (p3o fun _ _=>p3s h)
theorem zlR (hr:E.rom.get b=none):∀ n,(∀ f args S,LP b S→PR3 b Prod.snd ((run E n).call f args S))∧∀ c r T S,LP b S→PR3 b Res.S ((run E n).code c r T S)
 | 0=>⟨fun _ _ _ _=>p3n,fun _ _ _ _ _=>p3n⟩
 | n+1=>by
  obtain ⟨h1,h2⟩:=zlR hr n
  refine ⟨fun f args S h=>?_,fun c r T S h=>zdi hr h1 h2 c r T S h⟩
  show PR3 b Prod.snd (zjh E (run E n).call (run E n).code f args S)
  unfold zjh
  refine p3b (p3s h) (p3b ?_ (p3b (zpb h) (p3o fun fn _=>p3o fun c _=>p3g (p3o fun q hq=>?_))))
  ·unfold zor
   refine p3b ?_ ?_
   rotate_left
   ·cases E.ins with
    | none=>exact p3n
    | some q =>
     show PR3 b Prod.snd (zm1 E q.2 args S)
     unfold zm1
     split
     ·exact p3o fun e _=>p3g (p3o fun _ _=>p3o fun _ _=>p3g (p3s (h.new _)))
     ·exact p3b (p3o fun e _=>p3g (p3o fun _ _=>p3o fun _ _=>p3g (p3s (h.new _)))) (p3o fun e _=>p3g (p3o fun cs hcs=>p3g (p3o fun _ _=>p3o fun _ _=>p3o fun _ _=>p3g (p3s ((h.putC hcs _).new _)))))
     ·exact p3n
   unfold zfQ
   split
   ·rename_i a m x
    refine p3b (p3s h) ?_
    cases a with
    | none=>exact p3n
    | some a=>exact p3o fun c hc=>p3g (p3o fun _ _=>p3o fun _ _=>p3s (h.putC hc _))
   ·exact p3n
  ·unfold z3Z
   exact p3g (p3o fun vs _=>p3s (zdi hr h1 h2 c _ _ _ h _ hq))
theorem zeA (hr:E.rom.get b=none):∀ n c T S q,LP b S→(run E n).code c none T S=some q→(run E n).code c (some b) T S=some q
 | 0,_,_,_,_,_,h=>by cases h
 | n+1,c,T,S,q,hl,h=>by
  obtain ⟨h1,h2⟩:=zlR hr n
  have hcode:=fun c=>zdi (E:=E) (b:=b) hr h1 h2 c
  have key:∀ (c:Code) T S q,LP b S→z1C E (run E n).call (run E n).code c none T S=some q→z1C E (run E n).call (run E n).code c (some b) T S=some q:=by
   intro c
   induction c with
   | seq x y ihx ihy =>
    intro T S q hl h
    obtain ⟨q1,k1,k2⟩:=z8 h
    show ob (z1C E _ _ x (some b) T S) _=_
    rw [ihx T S q1 hl k1]
    have hl1:=hcode x none T S hl q1 k1
    show zl q1 _=_
    have k2:zl q1 (z1C E (run E n).call (run E n).code y none)=some q:=k2
    unfold zl at k2 ⊢
    cases hx:q1.ex with
    | normal=>rw [hx] at k2;exact ihy _ _ _ hl1 k2
    | exit _=>rw [hx] at k2;exact k2
    | ret=>rw [hx] at k2;exact k2
   | cond t x y ihx ihy =>
    intro T S q hl h
    obtain ⟨q1,k1,k2⟩:=z8 h
    show ob (ob (T.ev t) z3l) _=_
    rw [k1]
    cases q1 with
    | true=>exact ihx T S q hl k2
    | false=>exact ihy T S q hl k2
   | block id x ih =>
    intro T S q hl h
    obtain ⟨q1,k1,k2⟩:=z8 h
    show ob (z1C E _ _ x (some b) T S) _=_
    rw [ih T S q1 hl k1];exact k2
   | loop x ih =>
    intro T S q hl h
    obtain ⟨q1,k1,k2⟩:=z8 h
    show ob (z1C E _ _ x (some b) T S) _=_
    rw [ih T S q1 hl k1]
    have hl1:=hcode x none T S hl q1 k1
    show zl q1 _=_
    have k2:zl q1 ((run E n).code (.loop x) none)=some q:=k2
    unfold zl at k2 ⊢
    cases hx:q1.ex with
    | normal=>rw [hx] at k2;exact zeA hr n _ _ _ _ hl1 k2
    | exit _=>rw [hx] at k2;exact k2
    | ret=>rw [hx] at k2;exact k2
   | rangeFunc f ps asg x _ _ =>
    intro T S q hl h
    show z2B _ f ps.toList asg x (some b) T S=_
    have h:z2B (run E n).call f ps.toList asg x none T S=some q:=h
    unfold z2B at h ⊢
    have e:ziq S (some b)=true:=by
     obtain ⟨u,hu⟩:=hl.2
     show Option.rec false (fun _=>true) (ob (S.heap.get b) z3e)=true
     rw [hu]
    rw [e]
    exact (ze h).2
   | scope x ih=>exact fun T S q hl h=>ih T S q hl h
   | _=>exact fun T S q hl h=>h
  exact key c T S q hl h
end
section
variable {E:Env} {N:Nat} {st:List Nat} {rd:Option Nat} {tb:Tab} {Q:zK}
theorem zln {L:VS} {i:Nat} {v w:VB} (h:bk L i=some w):bk (up L i v) i=some v:=by rw [z9r h,if_pos rfl]
theorem VW.inRound {c:Code} {F:VK} {L:VS} {i No:Nat} {st0:LoopState} {pd:Option Code} {G:VK} {ps:List Tmp} {asg body:Code} (hb:bk L i=some (.loop st0 pd G No ps asg body)) (h:VW E N st none c F L Q):∀ T S Z j b,j i=some b→T.n=N→SR E S Z j L→FRR E S Z j F T→S.low≤S.size →
  Co E c (some b) T S fun r=>∃ F' L' Z' j',Left E st S Z j F L r.T r.S N F' L' Z' j'∧Q r.ex F' L':=by
 intro T S Z j b hj h1 h2 h3 h4
 obtain ⟨n,r,h5,h6⟩:=h T S Z j h1 h2 h3 h4
 obtain ⟨b0,hj0,T0,e1,_,_⟩:=h2.blk i _ hb id
 rw [hj] at hj0;cases hj0
 have hr:E.rom.get b=none:=by
  cases hr:E.rom.get b with
  | none=>rfl
  | some c=>exact absurd hj ((h2.rom b c hr).2 i)
 have hl:LP b S:=⟨(h2.jlt i b hj).1,by rw [e1];exact ⟨_,rfl⟩⟩
 exact ⟨n,r,fun m hm=>zeA hr m c T S r hl (h5 m hm),h6⟩
theorem zbQ {ops:Array Oper} {o:Oper} {F:VK} {L:VS} {C:VK→VS→Prop} {c:Call} {f:Operand} {i No:Nat} {as:List AV} {G G1:VK} {ps:List Tmp} {asg body:Code} (hg:vgd ops F o.guard=some true) (hd:zI o.dst N=true)
  (hop:o.op = .call c) (hc:c.callee = .value f) (hf:av F f=some (.yld i)) (ha:avs F c.args.toList=some as) (hb:bk L i=some (.loop .ready none G No ps asg body)) (hk:z7x No ps as G=some G1) (st1:List Nat) (hs1:inB st1 i=true) (hs2:z2Q (inB st1) F=true) (hs3:(st.all (inB st1))=true)
  (h:VW E No st1 none asg G1 L (fun e F1 L1=>e = .normal∧∃ G2,bk L1 i=some (.loop .ready none G2 No ps asg body)∧VW E No st1 none body F1 (up L1 i (.loop .busy none G2 No ps asg body)) (fun e F2 L2 =>
   ∃ F0 L0 pd G3,Vw E st1 F2 L2 F0 L0∧bk L0 i=some (.loop .busy pd G3 No ps asg body)∧C (zL o.dst (.lit (zk e)) F) (up L0 i (.loop (bf (zk e) .ready .done) (codeOf e) G3 No ps asg body))))):∀ T S Z j,T.n=N→SR E S Z j L→FRR E S Z j F T→S.low≤S.size →
  ∃ n T' S' Z' j' F' L',(∀ m,n≤m→zq E (run E m).call (run E m).code ops o T S=some (T',S'))∧T'.n=N∧SR E S' Z' j' L'∧FRR E S' Z' j' F' T'∧Ex S Z j S' Z' j'∧S'.low≤S'.size∧Stay st j j'∧C F' L':=by
 intro T S Z j h1 h2 h3 h4
 obtain ⟨v,k1,k2⟩:=h3.ev hf
 obtain ⟨vs,k3,k4⟩:=h3.evs ha
 cases k2 with
 | @yld _ b hj =>
  obtain ⟨b0,hj0,T0,e1,e2,e3⟩:=h2.blk i _ hb id
  rw [hj] at hj0;cases hj0
  obtain ⟨T1,b1,b2,b3⟩:=zbb hk e3 e2 k4
  obtain ⟨n1,r1,q1,F1,L1,Z1,j1,q2,q3,G2,q4,q5⟩:=VW.inRound hb h T1 S Z j b hj b2 h2 b3 h4
  have hj1:j1 i=some b:=q2.stay i (z1b hs1) b hj
  obtain ⟨b0,hj0,T2,f1,f2,f3⟩:=q2.sr.blk i _ q4 id
  rw [hj1] at hj0;cases hj0
  have z1:=z07 q2.sr hj1 (.loop .busy none T2 ps asg body)
  have hS1:=q2.sr.put (o:=.loop .busy none T2 ps asg body) (vb:=.loop .busy none G2 No ps asg body) q4 hj1 ⟨T2,z0q,f2,f3.mono' z1 fun _ _ h=>h⟩
  obtain ⟨n2,r2,p1,F2,L2,Z20,j20,p2,F0,L0,pd,G3,hw,p3,p4⟩:=VW.inRound (zln q4) q5 r1.T _ Z1 j1 b hj1 q2.n hS1 (q2.fr.mono' z1 fun _ _ h=>h) (z3u q2.low)
  obtain ⟨Z2,j2,w1,w2,w3,w4⟩:=hw r2.T r2.S Z20 j20 p2.sr p2.fr
  have hj2:j2 i=some b:=w4 i (z1b hs1) b (p2.stay i (z1b hs1) b hj1)
  obtain ⟨b0,hj0,T3,g1,g2,g3⟩:=w1.blk i _ p3 id
  rw [hj2] at hj0;cases hj0
  have z2:=z07 w1 hj2 (.loop (bf (zk r2.ex) .ready .done) (codeOf r2.ex) T3 ps asg body)
  have hS2:=w1.put (o:=.loop (bf (zk r2.ex) .ready .done) (codeOf r2.ex) T3 ps asg body) (vb:=.loop (bf (zk r2.ex) .ready .done) (codeOf r2.ex) G3 No ps asg body) p3 hj2 ⟨T3,z0q,g2,g3.mono' z2 fun _ _ h=>h⟩
  have hex:=((q2.ex.trans (Ex.put q2.sr hj1 (.loop .busy none T2 ps asg body))).trans (p2.ex.trans w3)).trans (Ex.put w1 hj2 (.loop (bf (zk r2.ex) .ready .done) (codeOf r2.ex) T3 ps asg body))
  have hjj:∀ k c,inB st1 k=true→j k=some c→j2 k=some c:=fun k c hi hk=>w4 k (z1b hi) c (p2.stay k (z1b hi) c (q2.stay k (z1b hi) c hk))
  obtain ⟨T',t1,t2,t3⟩:=z0I (d:=o.dst) (a:=.lit (zk r2.ex)) (v:=.bool (zk r2.ex)) h1 (h3.monoO (hex.zle h2) hjj hs2) hd (.lit _)
  refine ⟨n1+n2,T',_,Z2,j2,_,_,fun m hm=>?_,t2,hS2,t3,hex,z3u p2.low,fun k hi c hk=>hjj k c (List.all_eq_true.1 hs3 k hi) hk,p4⟩
  have hround:z6U (run E m).code b vs S=some (.bool (zk r2.ex),r2.S.put b (.loop (bf (zk r2.ex) .ready .done) (codeOf r2.ex) T3 ps asg body)):=by
   unfold z6U
   rw [e1]
   show ob (z4K ps vs T0) _=_
   rw [b1]
   show ob ((run E m).code asg (some b) T1 S) _=_
   rw [q1 m (by omega)]
   show gd (zk r1.ex) (ob (ob (r1.S.heap.get b) z3e) _)=_
   rw [q3,f1]
   show ob ((run E m).code body (some b) r1.T (r1.S.put b (.loop .busy none T2 ps asg body))) _=_
   rw [p1 m (by omega)]
   show ob (ob (r2.S.heap.get b) z3e) _=_
   rw [g1];rfl
  have hstep:zq E (run E m).call (run E m).code ops o T S=some (T',r2.S.put b (.loop (bf (zk r2.ex) .ready .done) (codeOf r2.ex) T3 ps asg body)):=by
   unfold zq
   rw [z1r hg h3,hop]
   have:zR E (run E m).call (run E m).code T S (.call c)=some (.bool (zk r2.ex),r2.S.put b (.loop (bf (zk r2.ex) .ready .done) (codeOf r2.ex) T3 ps asg body)):=by
    show ob (T.evs c.args.toList) _=_
    rw [k3,hc]
    show ob (T.ev f) _=_
    rw [k1]
    exact hround
   show ob (zR E _ _ T S (.call c)) (z3P T o.dst)=_
   rw [this]
   show ob (T.put o.dst _) _=_
   rw [t1];rfl
  exact hstep
theorem VO.yieldN {ops:Array Oper} {o:Oper} {rest:List Oper} {F:VK} {L:VS} {Q:VK→VS→Prop} {c:Call} {f:Operand} {i No:Nat} {as:List AV} {G G1:VK} {ps:List Tmp} {asg body:Code} (hg:vgd ops F o.guard=some true) (hd:zI o.dst N=true)
  (hop:o.op = .call c) (hc:c.callee = .value f) (hf:av F f=some (.yld i)) (ha:avs F c.args.toList=some as) (hb:bk L i=some (.loop .ready none G No ps asg body)) (hk:z7x No ps as G=some G1) (st1:List Nat) (hs1:inB st1 i=true) (hs2:z2Q (inB st1) F=true) (hs3:(st.all (inB st1))=true)
  (h:VW E No st1 none asg G1 L (fun e F1 L1=>e = .normal∧∃ G2,bk L1 i=some (.loop .ready none G2 No ps asg body)∧VW E No st1 none body F1 (up L1 i (.loop .busy none G2 No ps asg body)) (fun e F2 L2 =>
   ∃ F0 L0 pd G3,Vw E st1 F2 L2 F0 L0∧bk L0 i=some (.loop .busy pd G3 No ps asg body)∧VO E N st ops rest (zL o.dst (.lit (zk e)) F) (up L0 i (.loop (bf (zk e) .ready .done) (codeOf e) G3 No ps asg body)) Q))):VO E N st ops (o::rest) F L Q:=by
 intro T S Z j h1 h2 h3 h4
 obtain ⟨n,T',S',Z',j',F',L',k1,k2,k3,k4,k5,k6,k7,k8⟩:=zbQ (C:=fun F L=>VO E N st ops rest F L Q) hg hd hop hc hf ha hb hk st1 hs1 hs2 hs3 h T S Z j h1 h2 h3 h4
 obtain ⟨n2,r,q1,F2,L2,Z2,j2,q2,q3⟩:=k8 T' S' Z' j' k2 k3 k4 k6
 refine ⟨n+n2,r,fun m hm=>?_,F2,L2,Z2,j2,⟨q2.n,q2.sr,q2.fr,k5.trans q2.ex,q2.low,k7.trans q2.stay⟩,q3⟩
 show ob (zq E _ _ ops o T S) _=_
 rw [k1 m (by omega)]
 exact q1 m (by omega)
theorem VD0.yieldN {ops:Array Oper} {o:Oper} {bs:List Nat} {ks:List (Nat×Option Nat)} {q:Nat} {rest:List Oper} {F:VK} {L:VS} {Q:VK→VS→Prop} {c:Call} {f:Operand} {i No:Nat} {as:List AV} {G G1:VK} {ps:List Tmp} {asg body:Code} (hg:vgd ops F o.guard=some true) (hd:zI o.dst N=true)
  (hop:o.op = .call c) (hc:c.callee = .value f) (hf:av F f=some (.yld i)) (ha:avs F c.args.toList=some as) (hb:bk L i=some (.loop .ready none G No ps asg body)) (hk:z7x No ps as G=some G1) (st1:List Nat) (hs1:inB st1 i=true) (hs2:z2Q (inB st1) F=true) (hs3:(st.all (inB st1))=true)
  (hw:uni bs q=true)
  (h:VW E No st1 none asg G1 L (fun e F1 L1=>e = .normal∧∃ G2,bk L1 i=some (.loop .ready none G2 No ps asg body)∧VW E No st1 none body F1 (up L1 i (.loop .busy none G2 No ps asg body)) (fun e F2 L2 =>
   ∃ F0 L0 pd G3,Vw E st1 F2 L2 F0 L0∧bk L0 i=some (.loop .busy pd G3 No ps asg body)∧VD0 E N st ops bs [] rest (q+1) (zL o.dst (.lit (zk e)) F) (up L0 i (.loop (bf (zk e) .ready .done) (codeOf e) G3 No ps asg body)) Q))):VD0 E N st ops bs ks (o::rest) q F L Q:=by
 intro T S Z j D r0 h1 h2 h3 h4 hD hi hks
 obtain ⟨hi1,hi2⟩:=z4S hi
 obtain ⟨n,T',S',Z',j',F',L',k1,k2,k3,k4,k5,k6,k7,k8⟩:=zbQ (C:=fun F L=>VD0 E N st ops bs [] rest (q+1) F L Q) hg hd hop hc hf ha hb hk st1 hs1 hs2 hs3 h T S.at0 Z j h1 h2.at0 h3.at0 (ym _)
 have hks2:KInv [] j' (S.back S') ⟨D.r,D.starts++[S.size],(q,zH T o.op)::D.recs,D.wrs,D.rgs⟩ r0 (q+1):=by
  have h5:KInv [] j S D r0 q:=⟨hks.1,hks.2.1,hks.2.2.1,fun k hk=>nomatch hk⟩
  exact ⟨by show (D.starts++[S.size]).length=_;rw [List.length_append,h5.1];rfl,fun s hm=>by
   have hm:s∈D.starts++[S.size]:=hm
   rcases List.mem_append.1 hm with hm | hm
   ·exact yn (h5.2.1 s hm) k5.size
   ·rw [List.mem_singleton.1 hm];exact k5.size,yn h5.2.2.1 k5.size,fun k hk=>nomatch hk⟩
 obtain ⟨n2,r,q1,F2,L2,Z2,j2,q2,q3⟩:=k8 T' (S.back S') Z' j' _ r0 k2 k3.back k4.back (z1P k6) (z0U (size:=S.size) hi1 hD (z1L (k1 n (ym _)))) hi2 hks2
 refine ⟨n+n2,r,fun m hm=>?_,F2,L2,Z2,j2,⟨q2.n,q2.sr,q2.fr,k5.back.trans q2.ex,q2.low,k7.trans q2.stay⟩,q3⟩
 show ob (zq E _ _ ops o T S.at0) _=_
 rw [k1 m (by omega)]
 show ob (z0s ops bs q T S.size S'.low o.op D) _=_
 rw [z2j hi1 hD (.inr hw)]
 exact q1 m (by omega)
theorem VSt.yieldN {ops:Array Oper} {o:Oper} {rest:List Oper} {K:List KI} {F:VK} {L:VS} {c:Call} {f:Operand} {i No:Nat} {as:List AV} {G G1:VK} {ps:List Tmp} {asg body:Code} (st1:List Nat) (hg:vgl ops F o.guard=some true) (hd:zI o.dst N=true)
  (hop:o.op = .call c) (hc:c.callee = .value f) (hf:av F f=some (.yld i)) (ha:avs F c.args.toList=some as) (hb:bk L i=some (.loop .ready none G No ps asg body)) (hk:z7x No ps as G=some G1) (hs1:inB st1 i=true) (hs2:z2Q (inB st1) F=true) (hs3:(st.all (inB st1))=true)
  (h:VSt.H E No st1 none (fun e F1 L1=>e = .normal∧∃ G2,bk L1 i=some (.loop .ready none G2 No ps asg body)∧VSt.H E No st1 none (fun e F2 L2 =>
   ∃ F0 L0 pd G3,Vw E st1 F2 L2 F0 L0∧bk L0 i=some (.loop .busy pd G3 No ps asg body)∧VSt.H E N st rd Q (.ops ops rest K (zL o.dst (.lit (zk e)) F) (up L0 i (.loop (bf (zk e) .ready .done) (codeOf e) G3 No ps asg body)))) (.code body [] F1 (up L1 i (.loop .busy none G2 No ps asg body)))) (.code asg [] G1 L)):VSt.H E N st rd Q (.ops ops (o::rest) K F L) :=
 VO.yieldN (z1q hg) hd hop hc hf ha hb hk st1 hs1 hs2 hs3 (VW.mono h fun e F1 L1 hq=>⟨hq.1,hq.2.elim fun G2 h2=>⟨G2,h2.1,VW.mono h2.2 fun e F2 L2 hq=>hq⟩⟩)
end
end
section
variable {E:Env} {N:Nat} {st:List Nat} {rd:Option Nat} {Q:zK}
theorem z0G {ti:Nat} {b:Code} {K:List KI} {F:VK} {L:VS} (n:Nat) (kept:List Nat) (U:Nat→VK) (M:Nat→VS) (P:Nat→Prop)
  (hk:(kept.all fun t=>!Nat.beq ti t&&Option.rec false (fun _=>true) (ak F t))=true)
  (hi:ak F ti=some (nv 0)) (hU0:∀ p∈U 0,∃ a,ak F p.1=some a∧AImp a p.2) (hL:LImp L (M 0)) (hP:P 0)
  (hb:∀ k,k≤n→P k→VSt.H E N st rd Q (.code b (.inv (fun F' L'=>k<n∧Vw E st F' L' ((ti,nv (k+1))::(U (k+1)++kept.filterMap fun t=>(ak F t).map (Prod.mk t))) (M (k+1))∧P (k+1))::K) ((ti,nv k)::(U k++kept.filterMap fun t=>(ak F t).map (Prod.mk t))) (M k))) :
  VSt.H E N st rd Q (.code (.loop b) K F L):=by
 have hmem:∀ p∈(kept.filterMap fun t=>(ak F t).map (Prod.mk t)),p.1∈kept∧ak F p.1=some p.2:=by
  intro p hp
  obtain ⟨t,h1,h2⟩:=List.mem_filterMap.1 hp
  cases ha:ak F t with
  | none=>rw [ha] at h2;cases h2
  | some a=>rw [ha] at h2;cases h2;exact ⟨h1,ha⟩
 refine VW.view (F0:=((ti,nv 0)::(U 0++kept.filterMap fun t=>(ak F t).map (Prod.mk t)))) (L0:=M 0) ?_ (VW.loop (fun (k:Nat) F' L'=>k≤n∧P k∧F'=((ti,nv k)::(U k++kept.filterMap fun t=>(ak F t).map (Prod.mk t)))∧L'=M k) (fun k=>n - k) ?_ 0 _ _ ⟨yu _,hP,rfl,rfl⟩)
 ·refine Vw.trans (F0:=((ti,nv 0)::(U 0++kept.filterMap fun t=>(ak F t).map (Prod.mk t)))) (L0:=L) ?_ (Vw.imp hL)
  intro T S Z j h1 h2
  refine ⟨Z,j,h1,fun t a ha=>?_,Ex.refl _ _ _,Stay.refl _ _⟩
  have hin:=z4k ha
  rcases List.mem_cons.1 hin with e | hin
  ·cases e;exact h2 _ _ hi
  rcases List.mem_append.1 hin with hin | hin
  ·obtain ⟨b,h3,h4⟩:=hU0 _ hin
   obtain ⟨v,h5,h6⟩:=h2 _ _ h3
   exact ⟨v,h5,h4 _ _ _ _ _ h6⟩
  ·exact h2 _ _ (hmem _ hin).2
 ·rintro k F' L' ⟨h1,h2,rfl,rfl⟩
  refine VW.mono (hb k h1 h2) fun e F' L' hk=>?_
  cases e with
  | normal=>exact ⟨k+1,_,_,hk.2.1,⟨hk.1,hk.2.2,rfl,rfl⟩,by have:=hk.1;omega⟩
  | exit id=>exact hk
  | ret=>exact hk
end
noncomputable section
theorem zhf:∀ ps:List PV,unp (ps.map AV.p)=some ps
 | []=>rfl
 | p::ps=>by
  show (match unp (ps.map AV.p) with | some r=>some (p::r) | none=>none)=_
  rw [zhf ps]
section
variable {E:Env} {N:Nat} {st:List Nat} {rd:Option Nat} {Q:zK} {S:St} {Z:Nat→Prop} {j:Nm} {L:VS} {F:VK} {T:Fr}
theorem zlk {S:St} {o1:Yg} {vs:List Value} {t:TypeId}:((S.new o1).put S.size (.cells vs t)).cells S.size=some (vs,t):=by
 unfold St.cells
 rw [get_put,if_pos rfl];rfl
theorem ziL {S:St} {o1 o2:Yg} {b:Nat} (hb:b≠S.size):((S.new o1).put S.size o2).heap.get b=S.heap.get b:=by
 rw [get_put,if_neg hb,z0j,if_neg hb]
theorem zgK (hS:SR E S Z j L) (o1 o2:Yg):ZLe E S Z ((S.new o1).put S.size o2) (ZN S Z):=fun b hb=>⟨.inl hb,zeE (by
 unfold St.cells
 rw [ziL (by have:=hS.zlt b hb;omega)])⟩
theorem SR.np (hS:SR E S Z j L) (o1 o2:Yg):SR E ((S.new o1).put S.size o2) (ZN S Z) j L:=by
 refine ⟨fun b hb=>?_,fun i b hi=>⟨Nat.lt_succ_of_lt (hS.jlt i b hi).1,fun h=>?_⟩,hS.inj,hS.dom,fun i vb hi=>?_,fun b c hb=>⟨Nat.lt_succ_of_lt (hS.rom b c hb).1,(hS.rom b c hb).2⟩⟩
 ·rcases hb with hb | rfl
  ·exact Nat.lt_succ_of_lt (hS.zlt b hb)
  ·exact Nat.lt_succ_self _
 ·rcases h with h | rfl
  ·exact (hS.jlt i b hi).2 h
  ·exact Nat.lt_irrefl _ (hS.jlt i _ hi).1
 ·rcases hS.blk' i vb hi with hv | ⟨b,h1,h2⟩
  ·exact .inl hv
  refine .inr ⟨b,h1,h2.mono (ziL ?_) (zgK hS o1 o2) (fun _ _ h=>h)⟩
  have:=(hS.jlt _ _ h1).1;omega
theorem Ex.np (o1 o2:Yg):Ex S Z j ((S.new o1).put S.size o2) (ZN S Z) j:=by
 refine ⟨Nat.le_succ _,fun b hb _=>ziL (by omega),fun b h=>.inl h,fun b h=>?_,fun i b hi=>.inr ⟨i,hi⟩,Nat.min_le_right _ _,fun m h1 h2 _=>Nat.le_min.2 ⟨h2,h1⟩⟩
 rcases h with h | rfl
 ·exact .inl h
 ·exact .inr (.inl (ym _))
theorem VO.aside {tb:Tab} {ops:Array Oper} {o1 o2:Oper} {rest:List Oper} {Q:VK→VS→Prop} {t d:Nat} {x:Operand} {i0:VT} (ps:List PV) (hT:zM E tb=true) (hg1:vgd ops F o1.guard=some true) (hg2:o2.guard=none) (hd:zI o1.dst N=true) (hd1:o1.dst=some d) (hd2:o2.dst=none)
  (hop1:o1.op = .alloc t) (hop2:o2.op = .store t (.tmp d) x) (hi0:z3O tb t=some i0) (hz:Nat.beq i0.zero.length i0.size=true) (hl:Nat.beq ps.length i0.size=true) (hx:av ((d,.junk)::F) x=some (.agg (ps.map .p)))
  (hk:VO E N st ops rest ((d,.p (.fp ps 0))::F) L Q):VO E N st ops (o1::o2::rest) F L Q:=by
 intro T S Z j h1 h2 h3 h4
 obtain ⟨i,hti⟩:=zN hT hi0
 have hN:Nat.blt d T.n=true:=by rw [h1];rw [hd1] at hd;exact hd
 obtain ⟨T1,k1,k2,k3⟩:=h3.put (d:=d) hN (a:=.junk) (v:=ptr S.size 0) (.junk _)
 obtain ⟨v,k4,k5⟩:=k3.ev hx
 cases k5 with
 | agg hs hv =>
  rename_i va
  obtain ⟨vs,rfl⟩:∃ vs:List Value,va=vs.toArray:=⟨va.toList,by simp⟩
  have hv:VRs E S Z j (ps.map .p) vs:=by simpa using hv
  have hs:vs.all scalar=true:=by simpa using hs
  have hp:=zbr (zhf ps) hv
  have hzl:=(z2f (E:=E) (S:=S) (Z:=Z) hti.zero).length
  have hlen:=hp.length
  have e1:=zm hz
  have e2:=zm hl
  have s1:∀ m,zq E (run E m).call (run E m).code ops o1 T S=some (T1,S.new (.cells i.zero.cells.toList t)):=fun m=>by
   unfold zq
   rw [z1r hg1 h3,hop1]
   show ob (ob (E.ti.get t) _) _=_
   rw [hti.get]
   show ob (T.put o1.dst (ptr S.size 0)) _=_
   rw [hd1,k1];rfl
  have s2:∀ m,zq E (run E m).call (run E m).code ops o2 T1 (S.new (.cells i.zero.cells.toList t))=some (T1,(S.new (.cells i.zero.cells.toList t)).put S.size (.cells vs t)):=fun m=>by
   unfold zq
   rw [hg2,hop2]
   show ob (ob (ob (T1.t.get d) addrOf) fun p=>ob (T1.ev x) fun v=>ob (z0Y E t p v _) fun S'=>some (undef,S')) _=_
   have:T1.t.get d=some (ptr S.size 0):=by
    unfold Fr.put at k1
    have:=(ze k1).2
    cases this
    show (T.t.set d _).get d=_
    rw [Tr.get_set,if_pos rfl]
   rw [this,k4]
   show ob (ob (z0Y E t ⟨S.size,0,none⟩ (.agg vs.toArray) _) _) _=_
   unfold z0Y
   rw [hti.get]
   show ob (ob (gd (Nat.beq vs.toArray.size i.size) (St.store _ ⟨S.size,0,none⟩ vs.toArray.toList)) _) _=_
   have e3:Nat.beq vs.toArray.size i.size=true:=by rw [List.size_toArray,←hlen,e2,hti.size];exact Nat.beq_refl _
   rw [e3]
   show ob (ob (ob ((S.new (.cells i.zero.cells.toList t)).cells S.size) fun c=>gd (vs.all scalar) (ob (paste c.1 0 vs) fun c'=>some ((S.new (.cells i.zero.cells.toList t)).put S.size (.cells c' c.2)))) _) _=_
   rw [z0c]
   show ob (ob (gd (vs.all scalar) (ob (paste i.zero.cells.toList 0 vs) _)) _) _=_
   rw [hs,z4q (by omega)]
   have e4:i.zero.cells.toList.take 0++vs++i.zero.cells.toList.drop (0+vs.length)=vs:=by
    rw [List.take_zero,List.nil_append,List.drop_eq_nil_of_le (by omega),List.append_nil]
   rw [e4,hd2];rfl
  have hfr:FRR E ((S.new (.cells i.zero.cells.toList t)).put S.size (.cells vs t)) (ZN S Z) j ((d,.p (.fp ps 0))::F) T1:=by
   intro u a hu
   simp only [ak] at hu
   cases hb:Nat.beq d u with
   | true =>
    rw [hb] at hu
    cases hu
    have:=zm hb;subst this
    refine ⟨ptr S.size 0,?_,.p (.fp (o:=0) (.inr rfl) (cs:=vs) (t:=t) ?_ (vs:=vs) ?_ (hp.mono (zgK h2 _ _)))⟩
    ·unfold Fr.put at k1
     have:=(ze k1).2
     cases this
     show (T.t.set d _).get d=_
     rw [Tr.get_set,if_pos rfl]
    ·rw [z2I h2.rom_new];exact zlk
    ·rw [hlen];exact z4h vs
   | false =>
    rw [hb] at hu
    obtain ⟨w,w1,w2⟩:=k3 u a (by simp only [ak];rw [hb];exact hu)
    exact ⟨w,w1,w2.mono' (zgK h2 _ _) fun _ _ h=>h⟩
  obtain ⟨n,r,q1,F2,L2,Z2,j2,q2,q3⟩:=hk T1 ((S.new (.cells i.zero.cells.toList t)).put S.size (.cells vs t)) (ZN S Z) j (k2.trans h1) (h2.np _ _) hfr (z3u (Nat.le_succ_of_le h4))
  refine ⟨n,r,fun m hm=>?_,F2,L2,Z2,j2,⟨q2.n,q2.sr,q2.fr,(Ex.np _ _).trans q2.ex,q2.low,q2.stay⟩,q3⟩
  show ob (zq E _ _ ops o1 T S) _=_
  rw [s1 m]
  show ob (zq E _ _ ops o2 T1 _) _=_
  rw [s2 m]
  exact q1 m hm
theorem VSt.aside {tb:Tab} {ops:Array Oper} {o1 o2:Oper} {rest:List Oper} {K:List KI} {t d:Nat} {x:Operand} {i0:VT} (ps:List PV) (hT:zM E tb=true) (hg1:vgl ops F o1.guard=some true) (hg2:o2.guard=none) (hd:zI o1.dst N=true) (hd1:o1.dst=some d) (hd2:o2.dst=none)
  (hop1:o1.op = .alloc t) (hop2:o2.op = .store t (.tmp d) x) (hi0:z3O tb t=some i0) (hz:Nat.beq i0.zero.length i0.size=true) (hl:Nat.beq ps.length i0.size=true) (hx:av ((d,.junk)::F) x=some (.agg (ps.map .p)))
  (h:VSt.H E N st rd Q (.ops ops rest K ((d,.p (.fp ps 0))::F) L)):VSt.H E N st rd Q (.ops ops (o1::o2::rest) K F L) :=
 VO.aside ps hT (z1q hg1) hg2 hd hd1 hd2 hop1 hop2 hi0 hz hl hx h
end
end
section
variable {E:Env} {N:Nat} {st:List Nat} {rd:Option Nat} {Q:zK} {F:VK} {L:VS}
end
section
variable {E:Env} {N:Nat} {st:List Nat} {rd:Option Nat} {Q:zK}
end
section
variable {E:Env} {N:Nat} {st:List Nat} {rd:Option Nat} {Q:zK} {F:VK} {L:VS}
theorem VO.binA {ops:Array Oper} {o:Oper} {rest:List Oper} {Q:VK→VS→Prop} {op:BinOp} {t kd:TypeId} {x y:Operand} {a b c:Int} (hg:vgd ops F o.guard=some true) (hd:zI o.dst N=true) (hop:o.op = .binOp op t x y kd) (ha:av F x=some (.p (.int .i64 a))) (hb:av F y=some (.p (.int .i64 b))) (h:zY E op t (.int .i64 a) (.int .i64 b)=some (.int .i64 c))
  (hk:VO E N st ops rest (zL o.dst (.p (.int .i64 c)) F) L Q):VO E N st ops (o::rest) F L Q:=by
 intro T S Z j h1 h2 h3 h4
 obtain ⟨va,a1,a2⟩:=h3.ev ha
 obtain ⟨vb,b1,b2⟩:=h3.ev hb
 cases a2 with | p a2=>?_
 cases a2
 cases b2 with | p b2=>?_
 cases b2
 obtain ⟨T',h7,h8,h9⟩:=z0I h1 h3 hd (show VR E S Z j (.p (.int .i64 c)) (.int .i64 c) from .p (.int _ _))
 have s1:∀ m,zq E (run E m).call (run E m).code ops o T S=some (T',S):=fun m=>by
  unfold zq
  rw [z1r hg h3,hop]
  show ob (ob (ob (T.ev x) fun a=>ob (T.ev y) fun b=>zY E op t a b) fun v=>some (v,S)) (z3P T o.dst)=_
  rw [a1,b1]
  show ob (ob (zY E op t (.int .i64 a) (.int .i64 b)) fun v=>some (v,S)) (z3P T o.dst)=_
  rw [h]
  show ob (T.put o.dst _) _=_
  rw [h7];rfl
 obtain ⟨n,r,q1,F2,L2,Z2,j2,⟨q2n,q2s,q2f,q2e,q2l,q2t⟩,q3⟩:=hk T' S Z j h8 h2 h9 h4
 refine ⟨n,r,fun m hm=>?_,F2,L2,Z2,j2,⟨q2n,q2s,q2f,q2e,q2l,q2t⟩,q3⟩
 show ob (zq E _ _ ops o T S) _=_
 rw [s1 m]
 exact q1 m hm
theorem VSt.binA {ops:Array Oper} {o:Oper} {rest:List Oper} {K:List KI} {op:BinOp} {t kd:TypeId} {x y:Operand} {a b c:Int} (hg:vgl ops F o.guard=some true) (hd:zI o.dst N=true) (hop:o.op = .binOp op t x y kd) (ha:av F x=some (.p (.int .i64 a))) (hb:av F y=some (.p (.int .i64 b))) (h:zY E op t (.int .i64 a) (.int .i64 b)=some (.int .i64 c))
  (hk:VSt.H E N st rd Q (.ops ops rest K (zL o.dst (.p (.int .i64 c)) F) L)):VSt.H E N st rd Q (.ops ops (o::rest) K F L) :=
 VO.binA (z1q hg) hd hop ha hb h hk
end
section
variable {E:Env} {N:Nat} {st:List Nat} {rd:Option Nat} {Q:zK} {F:VK} {L:VS}
def PureA (E:Env) (F:VK) (L:VS) (o:Op) (a:AV):Prop:=∀ T S Z j,SR E S Z j L→FRR E S Z j F T→∃ v,(∀ cF dF,zR E cF dF T S o=some (v,S))∧VR E S Z j a v
theorem ze9 {ops:Array Oper} {o:Oper} {rest:List Oper} {K:List KI} {a:AV} (hg:vgl ops F o.guard=some true) (hd:zI o.dst N=true) (hv:PureA E F L o.op a) (h:VSt.H E N st rd Q (.ops ops rest K (zL o.dst a F) L)):VSt.H E N st rd Q (.ops ops (o::rest) K F L):=by
 intro T S Z j h1 h2 h3 h4
 obtain ⟨u,h5,h6⟩:=hv T S Z j h2 h3
 obtain ⟨T',h7,h8,h9⟩:=z0I h1 h3 hd h6
 have s1:∀ m,zq E (Proofs.YtdpipdniklognaaGreat.run E m).call (Proofs.YtdpipdniklognaaGreat.run E m).code ops o T S=some (T',S):=fun m=>by
  unfold zq
  rw [z1r (z1q hg) h3]
  show ob (zR E _ _ T S o.op) (z3P T o.dst)=_
  rw [h5]
  show ob (T.put o.dst u) _=_
  rw [h7];rfl
 obtain ⟨n,r,q1,F2,L2,Z2,j2,q2,q3⟩:=h T' S Z j h8 h2 h9 h4
 refine ⟨n,r,fun m hm=>?_,F2,L2,Z2,j2,⟨q2.n,q2.sr,q2.fr,q2.ex,q2.low,q2.stay⟩,q3⟩
 show ob (zq E _ _ ops o T S) _=_
 rw [s1 m]
 exact q1 m hm
theorem zoj {ops:Array Oper} {bs:List Nat} {ks:List (Nat×Option Nat)} {i:Nat} {o:Oper} {rest:List Oper} {K:List KI} {a:AV} (hg:vgl ops F o.guard=some true) (hd:zI o.dst N=true) (hv:PureA E F L o.op a) (h:VSt.H E N st rd Q (.dops ops bs ks rest (i+1) K (zL o.dst a F) L)):VSt.H E N st rd Q (.dops ops bs ks (o::rest) i K F L):=by
 intro T S Z j D r0 h1 h2 h3 h4 hD hi hks
 obtain ⟨hi1,hi2⟩:=z4S hi
 obtain ⟨u,h5,h6⟩:=hv T S.at0 Z j h2.at0 h3.at0
 obtain ⟨T',h7,h8,h9⟩:=z0I (S:=S.at0) h1 h3.at0 hd h6
 have s1:∀ m,zq E (Proofs.YtdpipdniklognaaGreat.run E m).call (Proofs.YtdpipdniklognaaGreat.run E m).code ops o T S.at0=some (T',S.at0):=fun m=>by
  unfold zq
  rw [z1r (z1q hg) h3.at0]
  show ob (zR E _ _ T S.at0 o.op) (z3P T o.dst)=_
  rw [h5]
  show ob (T.put o.dst u) _=_
  rw [h7];rfl
 have hdr:S.size≤S.at0.low∨uni bs i=true:=.inl (ym _)
 obtain ⟨n,r,q1,F2,L2,Z2,j2,q2,q3⟩:=h T' (S.back S.at0) Z j _ r0 h8 (SR.back (S:=S) (S1:=S.at0) h2.at0) (FRR.back (S:=S) (S1:=S.at0) h9) (z1P (ym _)) (z0U (size:=S.size) hi1 hD (z1L (s1 0))) hi2 (hks.step rfl (ym _) fun _ _ h=>h)
 refine ⟨n,r,fun m hm=>?_,F2,L2,Z2,j2,⟨q2.n,q2.sr,q2.fr,(Ex.back (S:=S) (S1:=S.at0) (Ex.refl _ _ _)).trans q2.ex,q2.low,q2.stay⟩,q3⟩
 show ob (zq E _ _ ops o T S.at0) _=_
 rw [s1 m]
 show ob (z0s ops bs i T S.size S.at0.low o.op D) _=_
 rw [z2j hi1 hD hdr]
 exact q1 m hm
def mvF (g:Nat→List PV) (d s k:Nat):Nat→List PV:=fun i=>bif Nat.ble d i&&Nat.blt i (d+k) then g (s+(i - d)) else g i
theorem zry {ex t:Nat}:(Option.rec true (fun _=>Nat.beq t t) (bif Nat.beq ex 0 then some 0 else none):Bool)=true:=by
 cases Nat.beq ex 0 with
 | true=>exact Nat.beq_refl _
 | false=>rfl
theorem zhd {b:Nat} {v:VB}:∀ {L:VS},bk L b=some v→up L b v=L
 | [],h=>by cases h
 | (s,w)::l,h=>by
  simp only [bk] at h
  simp only [up]
  cases hb:Nat.beq s b with
  | true=>rw [hb] at h;cases h;rfl
  | false=>rw [hb] at h;rw [zhd h];rfl
theorem zqa {g:Nat→List PV} {d s:Nat}:mvF g d s 0=g:=by
 funext i
 unfold mvF
 cases hb:(Nat.ble d i&&Nat.blt i (d+0)) with
 | true =>
  simp only [yw] at hb
  have h1:=zF hb.1
  have h2:=z0w hb.2
  omega
 | false=>rfl
end
section
variable {E:Env} {N:Nat} {st:List Nat} {rd:Option Nat} {Q:zK} {F:VK} {L:VS}
theorem z6b {ops:Array Oper} {o:Oper} {rest:List Oper} {K:List KI} {a:AV} {L':VS} (hg:vgl ops F o.guard=some true) (hd:zI o.dst N=true)
  (hv:∀ T S Z j,SR E S Z j L→FRR E S Z j F T→S.low≤S.size→∃ v S' j',(∀ cF dF,zR E cF dF T S o.op=some (v,S'))∧VR E S' Z j' a v∧SR E S' Z j' L'∧FRR E S' Z j' F T∧Ex S Z j S' Z j'∧S'.low≤S'.size∧∀ i b,j i=some b→j' i=some b)
  (h:VSt.H E N st rd Q (.ops ops rest K (zL o.dst a F) L')):VSt.H E N st rd Q (.ops ops (o::rest) K F L):=by
 intro T S Z j h1 h2 h3 h4
 obtain ⟨u,S',j',h5,h6,a1,a2,a3,a4,a5⟩:=hv T S Z j h2 h3 h4
 obtain ⟨T',h7,h8,h9⟩:=z0I h1 a2 hd h6
 have s1:∀ m,zq E (Proofs.YtdpipdniklognaaGreat.run E m).call (Proofs.YtdpipdniklognaaGreat.run E m).code ops o T S=some (T',S'):=fun m=>by
  unfold zq
  rw [z1r (z1q hg) h3]
  show ob (zR E _ _ T S o.op) (z3P T o.dst)=_
  rw [h5]
  show ob (T.put o.dst u) _=_
  rw [h7];rfl
 obtain ⟨n,r,q1,F2,L2,Z2,j2,q2,q3⟩:=h T' S' Z j' h8 a1 h9 a4
 refine ⟨n,r,fun m hm=>?_,F2,L2,Z2,j2,⟨q2.n,q2.sr,q2.fr,a3.trans q2.ex,q2.low,Stay.trans (fun i _ b hb=>a5 i b hb) q2.stay⟩,q3⟩
 show ob (zq E _ _ ops o T S) _=_
 rw [s1 m]
 exact q1 m hm
end
section
variable {E:Env}
theorem zfr {f:FuncId} {t:TypeId} {args:List Value} {S S':St} {v:Value} (hs:E.ins=some (f,t)) (hn:z4T E f=false) (ha:args.isEmpty=false) (h:zm1 E t args S=some (v,S')):∀ k,1≤k→(run E k).call f args S=some (v,S'):=fun k hk=>by
 obtain ⟨q,rfl,_⟩:=zh hk
 have hho:z2E E f args=false:=by
  unfold z2E
  cases hk:E.hook with
  | none=>rfl
  | some h=>show (Nat.beq f h&&_)=false;rw [ha,Bool.and_false]
 have hin:zf9 E f=true:=by
  unfold zf9
  rw [hs]
  exact Nat.beq_refl f
 have hso:z0A E f=true:=by unfold z0A;rw [hn,hin];rfl
 show bf (z2E E f _) _ (bf (z0A E f) (zor E f args S) _)=_
 unfold zor
 rw [hho,hso,hn,zr7,zr6,zr7,hs]
 exact h
theorem SR.deadPut {S:St} {Z:Nat→Prop} {j:Nm} {L:VS} {i b:Nat} {vb w:VB} {o:Yg} (hS:SR E S Z j L) (hi:bk L i=some w) (hj:j i=some b) (hb:vb.void):SR E (S.put b o) Z j (up L i vb):=by
 refine ⟨hS.zlt,hS.jlt,hS.inj,fun k hk=>?_,fun k vb' hk=>?_,hS.rom⟩
 ·rw [z9r hi] at hk
  split at hk
  ·cases hk
  ·exact hS.dom k hk
 ·rw [z9r hi] at hk
  split at hk
  ·rename_i e;cases hk;subst e;exact .inl hb
  ·rename_i e
   rcases hS.blk' k vb' hk with hv | ⟨b',h1,h2⟩
   ·exact .inl hv
   exact .inr ⟨b',h1,h2.mono (z8P (fun h=>by subst h;exact e (hS.inj _ _ _ h1 hj))) (z07 hS hj o) (fun _ _ h=>h)⟩
theorem z8f {cs:List Value} {sz:Nat}:∀ {n:Nat} {g:Nat→List Value},(∀ k,k<n→cut cs (k*sz) sz=some (g k)∧(g k).all scalar=true)→(cs.take (n*sz)).all scalar=true
 | 0,g,_=>by rw [Nat.zero_mul,List.take_zero];rfl
 | n+1,g,h=>by
  obtain ⟨h1,h2⟩:=h n (by omega)
  rw [z0D (z3F h1)] at h1
  rw [Nat.add_mul,Nat.one_mul,List.take_add,List.all_append,z8f (n:=n) (g:=g) (fun k hk=>h k (by omega)),Option.some.inj h1,h2];rfl
def zov (g h:Nat→List PV) (i:Nat):Nat→List PV:=fun k=>if k<i then g k else if k=i then h 0 else g (k - 1)
theorem zkZ {sz i n:Nat} {old new:List Value} {gg:Nat→List Value} (h1:old.length=n*sz) (h2:new.length=sz) (hi:i≤n) (hc:∀ k,k<n→cut old (k*sz) sz=some (gg k)) {k:Nat} (hk:k<n+1) :
  cut (z6D sz i old new) (k*sz) sz=some (if k<i then gg k else if k=i then new else gg (k - 1)):=by
 have hle:i*sz≤n*sz:=Nat.mul_le_mul_right _ hi
 have ht:(old.take (i*sz)).length=i*sz:=by rw [List.length_take,h1];omega
 unfold z6D
 rw [List.append_assoc]
 by_cases c1:k<i
 ·rw [if_pos c1]
  refine z1X ?_
  have h3:=z1v (sz:=sz) c1
  have h4:=hc k (by omega)
  rw [z0D (by rw [ht];exact h3),←h4,z0D (by omega)]
  congr 1
  rw [List.drop_take,List.take_take,Nat.min_eq_left (by omega)]
 ·rw [if_neg c1]
  have h3:k*sz=(old.take (i*sz)).length+(k - i)*sz:=by rw [ht,←Nat.add_mul];congr 1;omega
  rw [h3]
  refine z1z ?_
  by_cases c2:k=i
  ·subst c2
   rw [if_pos rfl,Nat.sub_self,Nat.zero_mul]
   refine z1X ?_
   have:=z4h new
   rw [h2] at this;exact this
  ·rw [if_neg c2]
   have h5:(k - i)*sz=new.length+(k - 1 - i)*sz:=by
    rw [h2,show k - i=(k - 1 - i)+1 by omega,Nat.add_mul,Nat.one_mul];omega
   rw [h5]
   refine z1z ?_
   have h6:=hc (k - 1) (by omega)
   have h8:i*sz+(k - 1 - i)*sz=(k - 1)*sz:=by rw [←Nat.add_mul];congr 1;omega
   have h7:=z1v (sz:=sz) (show k - 1<n by omega)
   rw [z0D (by rw [List.length_drop,h1];omega),←h6,z0D (by omega),List.drop_drop,h8]
theorem VC.ins {f:FuncId} {t t1:TypeId} {sz n i c ex:Nat} {nb:Bool} {g h:Nat→List PV} (hs:E.ins=some (f,t)) (hsrt:z4T E f=false) (hz:(E.ti.get t).map LTy.size=some sz) (hp:0<sz) (hn:n+1≤1048576) (hi:i≤n) :
  VC E [0,1] f [.acc nb 0 sz n,.p (.int .i64 (Int.ofNat i)),.sl 1 sz 0 1 c ex] [(0,.acc n sz g t),(1,.arr 1 sz h t1)] (fun a L=>a = .acc true 2 sz (n+1)∧L=[(2,.acc (n+1) sz (zov g h i) t),(0,.acc 0 sz g t),(1,.arr 1 sz h t1)]):=by
 intro S Z j vs hS hv hl
 obtain ⟨e,he,hes⟩:∃ e,E.ti.get t=some e∧e.size=sz:=by
  cases hg:E.ti.get t with
  | none=>rw [hg] at hz;cases hz
  | some e=>rw [hg] at hz;exact ⟨e,rfl,Option.some.inj hz⟩
 have hpb:Nat.blt 0 e.size=true:=by rw [hes];simpa using hp
 cases hv with | cons h1 hv=>?_
 cases hv with | cons h2 hv=>?_
 cases hv with | cons h3 hv=>?_
 cases hv
 cases h2 with | p h2=>?_
 cases h2
 cases h3 with | sl hj1=>?_
 rename_i b1
 obtain ⟨b',e1,us1,g1,c1,c2,c3,c4⟩:=hS.blk 1 _ rfl id
 rw [hj1] at e1;cases e1
 have n1:=c3 0 (by omega)
 have n2:=c4 0 (by omega)
 rw [Nat.zero_mul] at n1
 have n3:(g1 0).length=sz:=z1Z n1
 have n4:=n2.scalars
 have zero:∀ (a0:Option Addr),n=0→(∀ a,a0=some a→a.spot=none)→∃ m v S',(∀ k,m≤k→(run E k).call f [.slice a0 0 0,.int .i64 (Int.ofNat i),.slice (some ⟨b1,0*sz,bif Nat.beq ex 0 then some 0 else none⟩) 1 c] S=some (v,S'))∧∃ a L' Z' j',SR E S' Z' j' L'∧VR E S' Z' j' a v∧Ex S Z j S' Z' j'∧S'.low≤S'.size∧Stay [0,1] j j'∧a = .acc true 2 sz (n+1)∧L'=[(2,VB.acc (n+1) sz (zov g h i) t),(0,.acc 0 sz g t),(1,.arr 1 sz h t1)]:=by
  intro a0 hn0 ha0
  subst hn0
  have hi0:i=0:=by omega
  subst hi0
  refine ⟨1,.slice (some ⟨S.size,0,some 0⟩) 1 1,S.new (.cells (g1 0) t),zfr hs hsrt rfl ?_,.acc true 2 sz (0+1),_,Z,ext j 2 S.size,SR.newAt (id:=2) (vb:=.acc 1 sz (zov g h 0) t) rfl hS ⟨g1 0,fun _=>g1 0,z0c,by rw [n3,Nat.one_mul],fun k hk=>?_,fun k hk=>?_⟩,.accC (z0m _ _ _),Ex.new hS _,Nat.le_succ_of_le hl,fun q _ b hb=>hS.ext_le _ q b hb,rfl,rfl⟩
  ·have hZ:zot E t true 0 0 ⟨b1,0*sz,bif Nat.beq ex 0 then some 0 else none⟩ 1 S=some (.slice (some ⟨S.size,0,some 0⟩) 1 1,S.new (.cells (g1 0) t)):=by
    unfold zot
    rw [he]
    show gd (true&&(true&&(true&&(true&&Nat.blt 0 e.size)))) (ob (S.cells b1) fun cv=>ob (cut cv.1 (0*sz) e.size) fun new=>gd (new.all scalar) (some (Value.slice (some ⟨S.size,0,some 0⟩) 1 1,S.new (.cells new t))))=_
    rw [hpb,c1]
    show ob (cut us1 (0*sz) e.size) (fun new=>gd (new.all scalar) (some (Value.slice (some ⟨S.size,0,some 0⟩) 1 1,S.new (.cells new t))))=_
    rw [hes,Nat.zero_mul,n1]
    show gd ((g1 0).all scalar) _=_
    rw [n4];rfl
   cases a0 with
   | none=>exact hZ
   | some a =>
    obtain ⟨bl,ofs,sp⟩:=a
    have hsp:sp=none:=ha0 _ rfl
    subst hsp
    exact hZ
  ·have:k=0:=by omega
   subst this
   rw [Nat.zero_mul]
   have:=z4h (g1 0)
   rw [n3] at this;exact this
  ·have:k=0:=by omega
   subst this
   exact n2.mono (z0d hS _)
 cases h1 with
 | accN=>exact zero none rfl (fun a h=>by cases h)
 | accE hzb hcc hoo=>exact zero (some _) rfl (fun a h=>by cases h;rfl)
 | accC hj =>
  rename_i n0 b0
  obtain ⟨b2,e1,cs,gg,h7,h8,h9,h10⟩:=hS.blk 0 _ rfl (fun h0=>by have h0:n0+1=0:=h0;omega)
  rw [hj] at e1;cases e1
  have hne:b0≠b1:=fun hb=>by
   subst hb
   have:=hS.inj _ _ _ hj hj1
   cases this
  have hold:cut cs 0 ((n0+1)*sz)=some cs:=by
   have:=z4h cs
   rw [h8] at this;exact this
  have hsc:cs.all scalar=true:=by
   have:=z8f (cs:=cs) (sz:=sz) (n:=n0+1) (g:=gg) fun k hk=>⟨h9 k hk,(h10 k hk).scalars⟩
   rw [←h8,List.take_length] at this;exact this
  have hS1:=hS.deadPut (vb:=.acc 0 sz g t) (o:=.dead) (i:=0) rfl hj rfl
  have f9:=z0d hS1 (.cells (z6D sz i cs (g1 0)) t)
  have f5:=z07 hS hj .dead
  have f10:ZLe E S Z ((S.put b0 .dead).new (.cells (z6D sz i cs (g1 0)) t)) Z:=fun c hc=>⟨hc,(f9 c hc).2.trans (f5 c hc).2⟩
  refine ⟨1,.slice (some ⟨S.size,0,some 0⟩) (n0+1+1) (n0+1+1),(S.put b0 .dead).new (.cells (z6D sz i cs (g1 0)) t),zfr hs hsrt rfl ?_,.acc true 2 sz (n0+1+1),_,Z,ext j 2 S.size,SR.newAt (id:=2) (vb:=.acc (n0+1+1) sz (zov g h i) t) rfl hS1 ⟨z6D sz i cs (g1 0),_,z0c,z4A h8 n3 hi,fun k hk=>zkZ h8 n3 hi h9 hk,fun k hk=>?_⟩,.accC (z0m _ _ _),(Ex.put hS hj .dead).trans (Ex.new hS1 _),Nat.le_succ_of_le (z3u hl),fun q _ b hb=>hS.ext_le _ q b hb,rfl,rfl⟩
  ·show ob (E.ti.get t) (fun e =>
    gd (true&&(true&&(Nat.ble (n0+1+1) 1048576&&(decide ((0:Int)≤Int.ofNat i)&&(decide (Int.ofNat i≤Int.ofNat (n0+1))&&(true&&(Nat.blt 0 e.size && !Nat.beq b0 b1))))))) (ob (S.cells b0) fun cs=>gd (Nat.beq cs.2 t) (ob (cut cs.1 0 ((n0+1)*e.size)) fun old=>ob (S.cells b1) fun cv=>ob (cut cv.1 (0*sz) e.size) fun new=>gd (new.all scalar&&old.all scalar) (some (Value.slice (some ⟨S.size,0,some 0⟩) (n0+1+1) (n0+1+1),(S.put b0 .dead).new (.cells (z6D e.size i old new) t))))))=_
   rw [he]
   show gd (true&&(true&&(Nat.ble (n0+1+1) 1048576&&(decide ((0:Int)≤Int.ofNat i)&&(decide (Int.ofNat i≤Int.ofNat (n0+1))&&(true&&(Nat.blt 0 e.size && !Nat.beq b0 b1))))))) (ob (S.cells b0) fun cs=>gd (Nat.beq cs.2 t) (ob (cut cs.1 0 ((n0+1)*e.size)) fun old=>ob (S.cells b1) fun cv=>ob (cut cv.1 (0*sz) e.size) fun new=>gd (new.all scalar&&old.all scalar) (some (Value.slice (some ⟨S.size,0,some 0⟩) (n0+1+1) (n0+1+1),(S.put b0 .dead).new (.cells (z6D e.size i old new) t)))))=_
   rw [z3m hn,hpb,z0B hne,decide_eq_true (show (0:Int)≤Int.ofNat i by simp only [yl];omega),decide_eq_true (show Int.ofNat i≤Int.ofNat (n0+1) by simp only [yl];omega),h7]
   show gd (Nat.beq t t) (ob (cut cs 0 ((n0+1)*e.size)) fun old=>ob (S.cells b1) fun cv=>ob (cut cv.1 (0*sz) e.size) fun new=>gd (new.all scalar&&old.all scalar) (some (Value.slice (some ⟨S.size,0,some 0⟩) (n0+1+1) (n0+1+1),(S.put b0 .dead).new (.cells (z6D e.size i old new) t))))=_
   rw [Nat.beq_refl,hes,hold]
   show ob (S.cells b1) (fun cv=>ob (cut cv.1 (0*sz) sz) fun new=>gd (new.all scalar&&cs.all scalar) (some (Value.slice (some ⟨S.size,0,some 0⟩) (n0+1+1) (n0+1+1),(S.put b0 .dead).new (.cells (z6D sz i cs new) t))))=_
   rw [c1]
   show ob (cut us1 (0*sz) sz) (fun new=>gd (new.all scalar&&cs.all scalar) (some (Value.slice (some ⟨S.size,0,some 0⟩) (n0+1+1) (n0+1+1),(S.put b0 .dead).new (.cells (z6D sz i cs new) t))))=_
   rw [Nat.zero_mul,n1]
   show gd ((g1 0).all scalar&&cs.all scalar) _=_
   rw [n4,hsc];rfl
  ·show PRs E _ _ (zov g h i k) _
   unfold zov
   by_cases k1:k<i
   ·rw [if_pos k1,if_pos k1];exact (h10 _ (by omega)).mono f10
   ·rw [if_neg k1,if_neg k1]
    by_cases k2:k=i
    ·rw [if_pos k2,if_pos k2];exact n2.mono f10
    ·rw [if_neg k2,if_neg k2];exact (h10 _ (by omega)).mono f10
end
noncomputable section
def zoa (ops:List Oper) (k x:Nat):Option Nat:=bif z6z ops x then some x else match ops.zipIdx.filter fun p=>!zlX x p.1 with
 | [(o,m)]=>match o.op,o.guard,o.dst with
  | .fieldAddr _ (.tmp y) _,none,some d=>bif Nat.blt m k&&(z6z ops y&&Nat.beq d x) then some y else none
  | _,_,_=>none
 | _=>none
def zr0 (ks:List (Nat×Option Nat)) (F:VK) (y:Nat):Bool:=match ak F y with
 | some (.ref n _)=>ks.any fun q=>Nat.beq q.1 n&&q.2.isNone
 | _=>false
def zrG (ops:List Oper) (ks:List (Nat×Option Nat)) (F:VK) (k:Nat) (o:Op):Bool:=match o with
 | .load _ (.tmp x)=>match zoa ops k x with
  | some y=>zr0 ks F y
  | none=>false
 | _=>false
def zqZ (bs:List Nat) (ops:List Oper) (ks:List (Nat×Option Nat)) (F:VK) (i:Nat):Bool:=zbs ((bs[i]?).getD 0) i&&ops.zipIdx.all fun p=>Nat.ble p.2 i||(z6I bs i p.2||(idle p.1.op||zrG ops ks F p.2 p.1.op))
theorem zgt {ops:List Oper} {k x y:Nat} (h:zoa ops k x=some y):(z6z ops x=true∧y=x)∨∃ m,m<k∧zrw ops m x y:=by
 unfold zoa at h
 cases hn:z6z ops x with
 | true=>rw [hn] at h;cases h;exact .inl ⟨rfl,rfl⟩
 | false =>
  rw [hn] at h
  refine .inr ?_
  simp only [cond_false] at h
  split at h
  ·rename_i o m hl
   split at h
   ·rename_i t y' f d ho hg hd
    cases hc:(Nat.blt m k&&(z6z ops y'&&Nat.beq d x)) with
    | false=>rw [hc] at h;cases h
    | true =>
     rw [hc] at h;cases h
     simp only [yw] at hc
     obtain ⟨h1,h2,h3⟩:=hc
     have h3:=Nat.eq_of_beq_eq_true h3
     subst h3
     have hm:∀ p,p∈ops.zipIdx.filter (fun p=>!zlX d p.1) ↔ p=(o,m):=fun p=>by rw [hl];simp
     have ho1:ops[m]? = some o:=List.mk_mem_zipIdx_iff_getElem?.1 ((List.mem_filter.1 ((hm _).2 rfl)).1)
     refine ⟨m,z0w h1,o,t,f,ho1,ho,hg,hd,h2,fun k' o' hk' hne=>?_⟩
     cases hb:zlX d o' with
     | true=>rfl
     | false =>
      have:=(hm (o',k')).1 (List.mem_filter.2 ⟨List.mk_mem_zipIdx_iff_getElem?.2 hk',by rw [hb];rfl⟩)
      cases this
      exact absurd rfl hne
   ·cases h
  ·cases h
section
variable {E:Env} {N:Nat} {st:List Nat} {rd:Option Nat} {Q:zK} {S:St} {Z:Nat→Prop} {j:Nm} {F:VK} {T T0:Fr} {L:VS} {r0:Nat} {ops:Array Oper} {bs:List Nat} {ks:List (Nat×Option Nat)}
theorem znT {D:Dr} {i y:Nat} (hF:FRR E S Z j F T) (hK:KInv ks j S D r0 i) (h:zr0 ks F y=true):∃ b,z4i T y=some b∧b<r0:=by
 unfold zr0 at h
 split at h
 ·rename_i n off hk
  obtain ⟨q,hq,h⟩:=List.any_eq_true.1 h
  rw [yw] at h
  have hqn:=Nat.eq_of_beq_eq_true h.1
  obtain ⟨b,hb,h2⟩:=hK.2.2.2 q hq
  have hq2:q.2=none:=by cases hh:q.2 with
   | none=>rfl
   | some _=>rw [hh] at h;cases h.2
  rw [hq2] at h2
  obtain ⟨v,h3,h4⟩:=hF y _ hk
  cases h4 with
  | ref hj =>
   rw [←hqn,hb] at hj
   cases hj
   refine ⟨b,?_,h2⟩
   unfold z4i
   rw [h3];rfl
 ·cases h
theorem zpI {i:Nat} {o:Oper} {D:Dr} {T':Fr} {size low:Nat} {c:Call} {f:Operand} (hF:FRR E S Z j F T) (hK:KInv ks j S D r0 i) (hi:ops.toList[i]? = some o) (hD:DI ops.toList bs r0 i D T) (ht:StepT o T T') (hop:o.op = .call c) (hc:c.callee = .value f) (hr:r0≤low) (hf:zqZ bs ops.toList ks F i=true) :
  ∃ D',z0s ops bs i T size low o.op D=some D'∧DI ops.toList bs r0 (i+1) D' T'∧D'.starts=D.starts++[size]:=by
 unfold zqZ at hf
 rw [yw] at hf
 obtain ⟨hf1,hf2⟩:=hf
 unfold z0s
 rw [z5T hi hD]
 cases hb:(Nat.ble size low||uni bs i) with
 | true=>exact ⟨_,rfl,z0U hi hD ht,rfl⟩
 | false =>
  have hst:storeAt T o.op=none:=by
   rw [hop]
   show z0Z T c=none
   unfold z0Z
   rw [hc]
  have hto:zH T o.op=none:=by
   rw [hop]
   show z2t T c=none
   unfold z2t
   rw [hc]
  show ∃ D',obE (storeAt T o.op) _ _=_∧_
  rw [hst]
  have hD0:=z0U (size:=size) hi hD ht
  obtain ⟨⟨T0,ha,hP,hD⟩,hL⟩:=hD
  have h2:zdR bs i low o.op (zH T o.op) (D.starts++[size]) D.recs=true:=by
   unfold zdR
   rw [hto,hop,yw]
   refine ⟨rfl,List.all_eq_true.2 fun q hq=>?_⟩
   have h3:=z4X hf1 q.1 (hD.recs q hq).1
   have:z6I bs i q.1=true:=by unfold z6I;rw [h3];rfl
   rw [this];rfl
  show ∃ D',gd (zdR bs i low o.op (zH T o.op) (D.starts++[size]) D.recs) _=_∧_
  rw [h2]
  refine ⟨_,rfl,?_,rfl⟩
  obtain ⟨⟨T1,ha1,hP1,hD1⟩,hL1⟩:=hD0
  refine ⟨⟨T0,ha.step hi ht,hP.step hi ht,hD.r,fun q hq=>?_,fun q hq=>⟨Nat.lt_succ_of_lt (hD.wrs q hq).1,(hD.wrs q hq).2⟩,fun q hq=>?_⟩,z4a hi hL (fun q hq=>(hD.recs q hq).1) ht rfl⟩
  ·rcases List.mem_cons.1 hq with rfl | hq
   ·refine ⟨Nat.lt_succ_self _,fun o' ho'=>?_⟩
    rw [hi] at ho';cases ho'
    exact z3q ha hP _
   ·exact ⟨Nat.lt_succ_of_lt (hD.recs q hq).1,(hD.recs q hq).2⟩
  ·rcases List.mem_cons.1 hq with rfl | hq
   ·refine ⟨Nat.lt_succ_self _,fun k o' t hk hlt htk=>?_⟩
    have hlt:i<k:=hlt
    have:=List.all_eq_true.1 hf2 (o',k) (List.mk_mem_zipIdx_iff_getElem?.2 hk)
    rw [Bool.or_eq_true,Bool.or_eq_true,Bool.or_eq_true] at this
    rw [Bool.or_eq_true]
    rcases this with h3 | h3 | h3 | h3
    ·exact absurd (Nat.le_of_ble_eq_true h3) (by show ¬ k≤i;omega)
    ·exact .inl h3
    ·refine .inr ?_
     rw [htk.1 h3];rfl
    ·refine .inr ?_
     unfold zrG at h3
     split at h3
     ·rename_i ty x ho
      split at h3
      ·rename_i y hy
       obtain ⟨b,hb1,hb2⟩:=znT hF hK h3
       have hfar:z5v low (some [b])=true:=by
        show (Nat.blt b low&&true)=true
        rw [Bool.and_true]
        have:b<low:=by omega
        simpa using this
       rcases zgt hy with ⟨hn,rfl⟩ | ⟨m,hm,hd⟩
       ·have hfx:zpD ops.toList o'.op=some y:=by
         rw [ho]
         show (bif z6z ops.toList y then some y else none)=some y
         rw [hn];rfl
        have hT:z4i T0 y=some b:=by unfold z4i at hb1 ⊢;rw [←ha y hn];exact hb1
        rw [htk.2.1 y hfx,ho,zft (T':=T0) hT];exact hfar
       ·have hd':=hd
        obtain ⟨_,_,_,_,_,_,_,hn,_⟩:=hd'
        have hT:z4i T0 y=some b:=by unfold z4i at hb1 ⊢;rw [←ha y hn];exact hb1
        rw [htk.2.2 ty x m y ho hm hd b hT];exact hfar
      ·cases h3
     ·cases h3
   ·exact ⟨Nat.lt_succ_of_lt (hD.rgs q hq).1,(hD.rgs q hq).2⟩
def zpB (ks:List (Nat×Option Nat)) (ps:List (Nat×Nat)):Bool:=ps.all fun p=>ks.any fun q=>Nat.beq q.1 p.2&&q.2.isSome
theorem zlQ:∀ {ps:List (Nat×Nat)} {k i:Nat},pl ps k=some i→∃ p∈ps,p.2=i
 | [],k,i,h=>by cases h
 | (k0,i0)::l,k,i,h=>by
  unfold pl at h
  cases hb:Nat.beq k0 k with
  | true=>rw [hb] at h;cases h;exact ⟨(k0,i0),List.mem_cons_self,rfl⟩
  | false =>
   rw [hb] at h
   obtain ⟨p,hp,e⟩:=zlQ (ps:=l) h
   exact ⟨p,List.mem_cons_of_mem _ hp,e⟩
theorem VD0.callF {i:Nat} {o:Oper} {rest:List Oper} {c:Call} {f:Operand} {g:FuncId} {first cap args argsC:List AV} {Lc:VS} {ps:List (Nat×Nat)} {stc:List Nat} {R:AV→VS→Prop} {Q:VK→VS→Prop} (hg:vgd ops F o.guard=some true) (hd:zI o.dst N=true)
  (hop:o.op = .call c) (hc:c.callee = .value f) (hf:av F f=some (.fn g first cap)) (ha:avs F c.args.toList=some args) (hp:zbI ps=true) (hsel:zdc ps L ps=some Lc) (hstc:(ps.all fun p=>stc.any fun k=>Nat.beq k p.1)=true)
  (hon:z06 (olds ps) (first++(args++cap))=true) (hren:z0N (rnk ps) (first++(args++cap))=argsC) (hC:VC E stc g argsC Lc R) (hw:zpB ks ps=true) (hfar:zqZ bs ops.toList ks F i=true)
  (h:∀ a L',R a L'→VD0 E N st ops bs ks rest (i+1) (zL o.dst (a.ren (z1p ps (nx L))) F) (z4j (z1p ps (nx L)) L'++z2V ps L) Q):VD0 E N st ops bs ks (o::rest) i F L Q:=by
 intro T S Z j D r0 h1 h2 h3 h4 hD hi hks
 obtain ⟨hi1,hi2⟩:=z4S hi
 obtain ⟨n,T',S',Z',jn,a,L',k1,k2,k3,k4,k5,k6,k7,k8,_,k9⟩:=zdl hg hd hop hc hf ha hp hsel hstc hon hren hC h1 h2.at0 h3.at0 (ym _)
 have hlow:r0≤S'.low:=by
  refine k9 r0 hks.2.2.1 hks.2.2.1 fun k b hk=>?_
  unfold z5r at hk
  cases hpl:pl ps k with
  | none=>rw [hpl] at hk;cases hk
  | some i' =>
   rw [hpl] at hk
   obtain ⟨p,hp1,hp2⟩:=zlQ hpl
   obtain ⟨q,hq1,hq2⟩:=List.any_eq_true.1 (List.all_eq_true.1 hw p hp1)
   rw [yw] at hq2
   have hqn:=Nat.eq_of_beq_eq_true hq2.1
   obtain ⟨b',hb1,hb2⟩:=hks.2.2.2 q hq1
   have hk:j i'=some b:=hk
   rw [hqn,hp2,hk] at hb1
   have hb1:b=b':=Option.some.inj hb1
   subst hb1
   cases hq:q.2 with
   | none=>rw [hq] at hq2;cases hq2.2
   | some m=>rw [hq] at hb2;exact hb2.1
 obtain ⟨D',hdr,hD',hst'⟩:=zpI (size:=S.size) h3 hks hi1 hD (z1L (k1 n (ym _))) hop hc hlow hfar
 obtain ⟨n2,r,q1,F2,L2,Z2,j2,q2,q3⟩:=h a L' k2 T' (S.back S') Z' jn D' r0 k3 k4.back k5.back (z1P k7) hD' hi2 (hks.step hst' k6.size k8)
 refine ⟨n+n2,r,fun m hm=>?_,F2,L2,Z2,j2,⟨q2.n,q2.sr,q2.fr,k6.back.trans q2.ex,q2.low,Stay.trans (fun i _ b hb=>k8 i b hb) q2.stay⟩,q3⟩
 show ob (zq E _ _ ops o T S.at0) _=_
 rw [k1 m (by omega)]
 show ob (z0s ops bs i T S.size S'.low o.op D) _=_
 rw [hdr]
 exact q1 m (by omega)
end
end
section
variable {E:Env} {N:Nat} {st:List Nat} {rd:Option Nat} {Q:zK} {F:VK} {L:VS}
theorem zfN {cF:z1f} {dF:z15} {ops:Array Oper} {o:Oper} {T T':Fr} {S S':St} {t:Nat} (h:zq E cF dF ops o T S=some (T',S')) (ht:o.dst≠some t):T'.t.get t=T.t.get t:=by
 unfold zq at h
 obtain ⟨b,_,h1⟩:=z8 h
 cases b with
 | true =>
  obtain ⟨q,_,h2⟩:=z8 (show ob (zR E cF dF T S o.op) (z3P T o.dst)=some (T',S') from h1)
  obtain ⟨T1,h3,h4⟩:=z8 (show ob (T.put o.dst q.1) _=some (T',S') from h2)
  cases h4
  exact z8m h3 ht
 | false =>
  obtain ⟨T1,h3,h4⟩:=z8 (show ob (T.put o.dst undef) _=some (T',S') from h1)
  cases h4
  exact z8m h3 ht
theorem zbC {cF:z1f} {dF:z15} {ops:Array Oper} {t:Nat}:∀ {rest:List Oper} {T T':Fr} {S S':St},z4P E cF dF ops rest T S=some (T',S')→(∀ o∈rest,o.dst≠some t)→T'.t.get t=T.t.get t
 | [],T,T',S,S',h,_=>by
  cases (show some (T,S)=some (T',S') from h);rfl
 | o::rest,T,T',S,S',h,ht=>by
  obtain ⟨r,h1,h2⟩:=z8 (show ob (zq E cF dF ops o T S) (fun r=>z4P E cF dF ops rest r.1 r.2)=some (T',S') from h)
  rw [zbC h2 fun o ho=>ht o (List.mem_cons_of_mem _ ho),zfN h1 (ht o (List.mem_cons_self ..))]
def znU (F:VK) (o:Oper):Bool:=match o.dst with
 | some d=>(ak F d).isSome
 | none=>false
theorem zmm:∀ {A B:VK} {t:Nat},ak (A++B) t=match ak A t with | some a=>some a | none=>ak B t
 | [],B,t=>rfl
 | (k,a)::A,B,t=>by
  rw [List.cons_append]
  simp only [ak]
  cases Nat.beq k t with
  | true=>rfl
  | false=>exact zmm
theorem BR.any {S:St} {Z:Nat→Prop} {j j':Nm} {b n sz:Nat} {f:Nat→List PV} {t:TypeId} (h:BR E S Z j b (.arr n sz f t)):BR E S Z j' b (.arr n sz f t):=h
theorem zhA {cF:z1f} {dF:z15} {ops:Array Oper}:∀ (a b:List Oper) (T:Fr) (S:St),z4P E cF dF ops (a++b) T S=ob (z4P E cF dF ops a T S) fun r=>z4P E cF dF ops b r.1 r.2
 | [],b,T,S=>rfl
 | o::a,b,T,S=>by
  show ob (zq E cF dF ops o T S) (fun r=>z4P E cF dF ops (a++b) r.1 r.2)=ob (ob (zq E cF dF ops o T S) fun r=>z4P E cF dF ops a r.1 r.2) _
  cases zq E cF dF ops o T S with
  | none=>rfl
  | some q=>exact zhA a b q.1 q.2
theorem VO.fr {ops:Array Oper} {rest:List Oper} {Q:VK→VS→Prop} (m:Nat) (F1 FX:VK) (i n sz:Nat) (f:Nat→List PV) (t:TypeId) (hF1:∀ p∈F1,ak F p.1=some p.2) (hFX:∀ p∈FX,ak F p.1=some p.2) (hi:bk L i=some (.arr n sz f t)) (hof:z2Q (fun k=>Nat.beq k i) F1=true)
  (hds:((rest.take m).all fun o=>!znU FX o)=true)
  (hw:VO E N [i] ops (rest.take m) F1 [(i,.arr n sz f t)] fun F' L'=>∃ F0 g,Vw E [i] F' L' F0 [(i,.arr n sz g t)]∧z2Q (fun k=>Nat.beq k i) F0=true∧VO E N st ops (rest.drop m) (F0++FX) (up L i (.arr n sz g t)) Q):VO E N st ops rest F L Q:=by
 intro T S Z j h1 h2 h3 h4
 obtain ⟨b,hj,hb⟩:=h2.blk i _ hi id
 let jL:Nm:=fun k=>if k=i then some b else none
 have hjL:∀ k c,jL k=some c→k=i∧c=b:=fun k c hk=>by
  show k=i∧c=b
  have hk:(if k=i then some b else none)=some c:=hk
  split at hk
  ·cases hk;exact ⟨by assumption,rfl⟩
  ·cases hk
 have hSL:SR E S Z jL [(i,.arr n sz f t)]:=by
  refine ⟨h2.zlt,fun k c hk=>?_,fun k k' c hk hk'=>?_,fun k hk=>?_,fun k vb hk=>?_,fun c v hc=>⟨(h2.rom c v hc).1,fun k hk=>?_⟩⟩
  ·obtain ⟨rfl,rfl⟩:=hjL k c hk;exact h2.jlt _ _ hj
  ·rw [(hjL k c hk).1,(hjL k' c hk').1]
  ·rw [zA] at hk
   show (if k=i then some b else none)=none
   split at hk
   ·cases hk
   ·rename_i e;rw [if_neg e]
  ·rw [zA] at hk
   split at hk
   ·rename_i e;cases hk;subst e
    exact .inr ⟨b,if_pos rfl,hb.any⟩
   ·cases hk
  ·obtain ⟨rfl,rfl⟩:=hjL k c hk;exact (h2.rom _ v hc).2 _ hj
 have hFL:FRR E S Z jL F1 T:=by
  have h5:FRR E S Z j F1 T:=fun u a ha=>h3 u a (hF1 _ (z4k ha))
  refine h5.monoO (ZLe.refl S Z) (fun k c hk hc=>?_) hof
  have:k=i:=by simpa using hk
  subst this
  rw [hj] at hc;cases hc
  exact if_pos rfl
 obtain ⟨n1,r,q1,F',L',Z1,j1,q2,F0,g,hv,ho0,q3⟩:=hw T S Z jL h1 hSL hFL h4
 obtain ⟨Z',j',v1,v2,v3,v4⟩:=hv r.1 r.2 Z1 j1 q2.sr q2.fr
 have hex:Ex S Z jL r.2 Z' j':=q2.ex.trans v3
 have hji:j' i=some b:=v4 i (List.mem_singleton.2 rfl) b (q2.stay i (List.mem_singleton.2 rfl) b (if_pos rfl))
 obtain ⟨b0,hb0,hb1⟩:=v1.blk i (.arr n sz g t) (by rw [zA,if_pos rfl]) id
 rw [hji] at hb0;cases hb0
 have hzle:ZLe E S Z r.2 Z':=hex.zle hSL
 have hnot:∀ k c,j k=some c→k≠i→∀ k',jL k'≠some c:=fun k c hk e k' hk'=>by
  obtain ⟨rfl,rfl⟩:=hjL k' c hk'
  exact e (h2.inj _ _ _ hk hj)
 have hS2:SR E r.2 Z' j (up L i (.arr n sz g t)):=by
  refine ⟨v1.zlt,fun k c hk=>⟨yo (h2.jlt k c hk).1 hex.size,fun hz=>?_⟩,h2.inj,fun k hk=>?_,fun k vb hk=>?_,fun c v hc=>⟨(v1.rom c v hc).1,(h2.rom c v hc).2⟩⟩
  ·by_cases e:k=i
   ·subst e;rw [hj] at hk;cases hk
    exact (v1.jlt _ _ hji).2 hz
   ·rcases hex.zn c hz with h | h | ⟨k',h⟩
    ·exact (h2.jlt k c hk).2 h
    ·exact absurd (h2.jlt k c hk).1 (Nat.not_lt.2 h)
    ·exact hnot k c hk e k' h
  ·rw [z9r hi] at hk
   split at hk
   ·cases hk
   ·exact h2.dom k hk
  ·rw [z9r hi] at hk
   split at hk
   ·rename_i e;cases hk;subst e
    exact .inr ⟨b,hj,hb1.any⟩
   ·rename_i e
    rcases h2.blk' k vb hk with h | ⟨c,h5,h6⟩
    ·exact .inl h
    ·exact .inr ⟨c,h5,h6.mono (hex.old c (h2.jlt k c h5).1 (hnot k c h5 e)) hzle fun _ _ h=>h⟩
 have hx:Ex S Z j r.2 Z' j:=by
  refine ⟨hex.size,fun c hc hn=>hex.old c hc fun k hk=>?_,hex.zz,fun c hc=>?_,fun k c hk=>.inr ⟨k,hk⟩,hex.low.1,fun m h5 h6 h7=>hex.low.2 m h5 h6 fun k c hk=>?_⟩
  ·obtain ⟨rfl,rfl⟩:=hjL k c hk;exact hn _ hj
  ·rcases hex.zn c hc with h | h | ⟨k',h⟩
   ·exact .inl h
   ·exact .inr (.inl h)
   ·obtain ⟨rfl,rfl⟩:=hjL k' c h;exact .inr (.inr ⟨_,hj⟩)
  ·obtain ⟨rfl,rfl⟩:=hjL k c hk;exact h7 _ _ hj
 have hF2:FRR E r.2 Z' j (F0++FX) r.1:=fun u a ha=>by
  rw [zmm] at ha
  cases hu:ak F0 u with
  | some a' =>
   rw [hu] at ha;cases ha
   have h5:FRR E r.2 Z' j F0 r.1:=v2.monoO (ZLe.refl _ _) (fun k c hk hc=>by
    have:k=i:=by simpa using hk
    subst this
    rw [hji] at hc;cases hc;exact hj) ho0
   exact h5 u _ hu
  | none =>
   rw [hu] at ha
   obtain ⟨w,w1,w2⟩:=h3 u a (hFX _ (z4k ha))
   refine ⟨w,?_,w2.mono' hzle fun _ _ h=>h⟩
   rw [zbC (q1 n1 (ym _)) (fun o ho e=>?_),w1]
   have h5:=List.all_eq_true.1 hds o ho
   unfold znU at h5
   rw [e] at h5
   simp only [ha,Option.isSome] at h5
   exact absurd h5 (by decide)
 obtain ⟨n2,r2,p1,F9,L9,Z9,j9,p2,p3⟩:=q3 r.1 r.2 Z' j q2.n hS2 hF2 q2.low
 refine ⟨n1+n2,r2,fun k hk=>?_,F9,L9,Z9,j9,⟨p2.n,p2.sr,p2.fr,hx.trans p2.ex,p2.low,p2.stay⟩,p3⟩
 have hsp:=zhA (E:=E) (cF:=(Proofs.YtdpipdniklognaaGreat.run E k).call) (dF:=(Proofs.YtdpipdniklognaaGreat.run E k).code) (ops:=ops) (rest.take m) (rest.drop m) T S
 rw [List.take_append_drop] at hsp
 rw [hsp,q1 k (by omega)]
 exact p1 k (by omega)
theorem VSt.fr {ops:Array Oper} {rest:List Oper} {K:List KI} (m:Nat) (F1 FX:VK) (i:Nat) {n sz:Nat} {f:Nat→List PV} {t:TypeId} (hF1:∀ p∈F1,ak F p.1=some p.2) (hFX:∀ p∈FX,ak F p.1=some p.2) (hi:bk L i=some (.arr n sz f t)) (hof:z2Q (fun k=>Nat.beq k i) F1=true)
  (hds:((rest.take m).all fun o=>!znU FX o)=true)
  (hw:VSt.H E N [i] none (fun e F' L'=>e = .normal∧∃ F0 g,Vw E [i] F' L' F0 [(i,.arr n sz g t)]∧z2Q (fun k=>Nat.beq k i) F0=true∧VSt.H E N st rd Q (.ops ops (rest.drop m) K (F0++FX) (up L i (.arr n sz g t)))) (.ops ops (rest.take m) [] F1 [(i,.arr n sz f t)])):VSt.H E N st rd Q (.ops ops rest K F L) :=
 VO.fr m F1 FX i n sz f t hF1 hFX hi hof hds (fun T S Z j h1 h2 h3 h4=>by
  obtain ⟨n1,r,q1,F',L',Z',j',q2,_,q3⟩:=hw T S Z j h1 h2 h3 h4
  exact ⟨n1,r,q1,F',L',Z',j',q2,q3⟩)
theorem VSt.ci {ops:Array Oper} {o:Oper} {rest:List Oper} {K:List KI} {c:Call} {f:Operand} {g:FuncId} {first cap args:List AV} (stc:List Nat) {R:AV→VS→Prop} (hg:vgl ops F o.guard=some true) (hd:zI o.dst N=true)
  (hop:o.op = .call c) (hc:c.callee = .value f) (hf:av F f=some (.fn g first cap)) (ha:avs F c.args.toList=some args) (hs2:z2Q (inB stc) F=true) (hs3:(st.all (inB stc))=true) (hC:VC E stc g (first++(args++cap)) L R)
  (h:∀ a L',R a L'→VSt.H E N st rd Q (.ops ops rest K (zL o.dst a F) L')):VSt.H E N st rd Q (.ops ops (o::rest) K F L):=by
 intro T S Z j h1 h2 h3 h4
 obtain ⟨v,k1,k2⟩:=h3.ev hf
 obtain ⟨vs,k3,k4⟩:=h3.evs ha
 cases k2 with
 | fn q1 q2 =>
  rename_i fa ca
  obtain ⟨n,u,S',h5,a,L',Z',j',h6,h7,h8,h9,h10,h11⟩:=hC S Z j _ h2 (q1.append (k4.append q2)) h4
  have hjj:∀ k c,inB stc k=true→j k=some c→j' k=some c:=fun k c hi hk=>h10 k (z1b hi) c hk
  obtain ⟨T',t1,t2,t3⟩:=z0I h1 (h3.monoO (h8.zle h2) hjj hs2) hd h7
  obtain ⟨n2,r,p1,F2,L2,Z2,j2,p2,p3⟩:=h a L' h11 T' S' Z' j' t2 h6 t3 h9
  refine ⟨n+n2,r,fun m hm=>?_,F2,L2,Z2,j2,⟨p2.n,p2.sr,p2.fr,h8.trans p2.ex,p2.low,Stay.trans (fun k hi b hb=>hjj k b (List.all_eq_true.1 hs3 k hi) hb) p2.stay⟩,p3⟩
  have hstep:zq E (Proofs.YtdpipdniklognaaGreat.run E m).call (Proofs.YtdpipdniklognaaGreat.run E m).code ops o T S=some (T',S'):=by
   unfold zq
   rw [z1r (z1q hg) h3,hop]
   have:zR E (Proofs.YtdpipdniklognaaGreat.run E m).call (Proofs.YtdpipdniklognaaGreat.run E m).code T S (.call c)=some (u,S'):=by
    show ob (T.evs c.args.toList) _=_
    rw [k3,hc]
    show ob (T.ev f) _=_
    rw [k1]
    exact h5 m (by omega)
   show ob (zR E _ _ T S (.call c)) (z3P T o.dst)=_
   rw [this]
   show ob (T.put o.dst u) _=_
   rw [t1];rfl
  show ob (zq E _ _ ops o T S) _=_
  rw [hstep]
  exact p1 m (by omega)
theorem z5R {S:St} {Z:Nat→Prop} {j:Nm} {i:Nat} (h2:SR E S Z j L) (hi:bk L i=none) (b:Nat):∀ k c,j k=some c→ext j i b k=some c:=fun k c hk=>by
 unfold ext
 by_cases e:k=i
 ·subst e;rw [h2.dom _ hi] at hk;cases hk
 ·rw [if_neg e];exact hk
theorem Ex.newAt {S:St} {Z:Nat→Prop} {j:Nm} (i:Nat) (o:Yg):Ex S Z j (S.new o) Z (ext j i S.size):=by
 refine ⟨Nat.le_succ _,fun b hb _=>by rw [z0j,if_neg (by omega)],fun b h=>h,fun b h=>.inl h,fun k c hk=>?_,ym _,fun m h _ _=>h⟩
 unfold ext at hk
 split at hk
 ·cases hk;exact .inl (ym _)
 ·exact .inr ⟨k,hk⟩
theorem z14 {f:Operand} {ps:Array Tmp} {asg body:Code} {K:List KI} {g:FuncId} {first cap:List AV} (i:Nat) (stc:List Nat) {R:AV→VS→Prop} (hi:bk L i=none) (hf:av F f=some (.fn g first cap)) (hsi:inB stc i=true) (hs2:z2Q (inB stc) F=true) (hs3:(st.all (inB stc))=true)
  (hC:VC E stc g (first++([.yld i]++cap)) ((i,.loop .ready none F N ps.toList asg body)::L) R)
  (h:∀ a L',R a L'→∃ st0 pd G2 e N2 ps2 asg2 body2,bk L' i=some (.loop st0 pd G2 N2 ps2 asg2 body2)∧z9L st0=false∧z9V pd=some e ∧
   VSt.H E N st none Q (.ex e K F (up L' i (.loop .exhausted pd G2 N2 ps2 asg2 body2)))):VSt.H E N st none Q (.code (.rangeFunc f ps asg body) K F L):=by
 intro T S Z j h1 h2 h3 h4
 obtain ⟨v,k1,k2⟩:=h3.ev hf
 cases k2 with
 | fn q1 q2 =>
  rename_i fa ca
  have hle:=z5R h2 hi S.size
  have hS1:=SR.newAt (o:=.loop .ready none T ps.toList asg body) (vb:=.loop .ready none F N ps.toList asg body) hi h2 ⟨T,by rw [z0j,if_pos rfl],h1,h3.mono' (z0d h2 _) hle⟩
  have hself:ext j i S.size i=some S.size:=z0m _ _ _
  have hvs:VRs E (S.new (.loop .ready none T ps.toList asg body)) Z (ext j i S.size) (first++([.yld i]++cap)) (fa.toList++([.func (.yield S.size) #[] #[]]++ca.toList)) :=
   (q1.mono' (z0d h2 _) hle).append ((VRs.cons (.yld hself) .nil).append (q2.mono' (z0d h2 _) hle))
  obtain ⟨n,u,S',h5,a,L',Z',j',h6,h7,h8,h9,h10,h11⟩:=hC _ Z _ _ hS1 hvs (Nat.le_succ_of_le h4)
  obtain ⟨st0,pd,G2,e,N2,ps2,asg2,body2,g1,g2,g3,g4⟩:=h a L' h11
  have hj:j' i=some S.size:=h10 i (z1b hsi) _ hself
  obtain ⟨b0,hj0,T2,f1,f2,f3⟩:=h6.blk _ _ g1 id
  rw [hj] at hj0;cases hj0
  have z2:=z07 h6 hj (.loop .exhausted pd T2 ps2 asg2 body2)
  have hS2:=h6.put (o:=.loop .exhausted pd T2 ps2 asg2 body2) (vb:=.loop .exhausted pd G2 N2 ps2 asg2 body2) g1 hj ⟨T2,z0q,f2,f3.mono' z2 fun _ _ h=>h⟩
  have hex:=((Ex.newAt i (.loop .ready none T ps.toList asg body)).trans h8).trans (Ex.put h6 hj (.loop .exhausted pd T2 ps2 asg2 body2))
  have hjj:∀ k c,inB stc k=true→j k=some c→j' k=some c:=fun k c hk hc=>h10 k (z1b hk) c (hle k c hc)
  refine ⟨n+1,⟨e,T,S'.put S.size (.loop .exhausted pd T2 ps2 asg2 body2)⟩,fun m hm=>?_,F,_,Z',j',⟨h1,hS2,h3.monoO (hex.zle h2) hjj hs2,hex,z3u h9,fun k hk c hc=>hjj k c (List.all_eq_true.1 hs3 k hk) hc⟩,g4⟩
  obtain ⟨k,rfl,hk⟩:=zh hm
  show z2B (Proofs.YtdpipdniklognaaGreat.run E k).call f ps.toList asg body none T S=_
  unfold z2B
  show ob (ob (T.ev f) funcOf) _=_
  rw [k1]
  show ob ((Proofs.YtdpipdniklognaaGreat.run E k).call g (fa.toList++([.func (.yield S.size) #[] #[]]++ca.toList)) (S.new (.loop .ready none T ps.toList asg body))) _=_
  rw [h5 k (by omega)]
  show ob (ob (S'.heap.get S.size) z3e) _=_
  rw [f1]
  show gd (!z9L st0) (ob (z9V pd) _)=_
  rw [g2,g3];rfl
theorem z6O {ops:Array Oper} {o:Oper} {rest:List Oper} {K:List KI} {tb:Tab} {t:Nat} {x:VT} (i:Nat) (hT:zM E tb=true) (hi:bk L i=none) (hg:vgl ops F o.guard=some true) (hd:zI o.dst N=true) (hop:o.op = .alloc t) (hx:z3O tb t=some x)
  (h:VSt.H E N st rd Q (.ops ops rest K (zL o.dst (.ref i 0) F) ((i,.cells (x.zero.map .p) t)::L))):VSt.H E N st rd Q (.ops ops (o::rest) K F L):=by
 refine z6b hg hd (fun T S Z j hS hF hl=>?_) h
 rw [hop]
 obtain ⟨e,hti⟩:=zN hT hx
 have hz:=z2f (E:=E) (S:=S) (Z:=Z) hti.zero
 have hle:=z5R hS hi S.size
 refine ⟨ptr S.size 0,S.new (.cells e.zero.cells.toList t),ext j i S.size,fun cF dF=>?_,.ref (z0m _ _ _),SR.newAt hi hS ⟨_,z0c,hz.scalars,(hz.mono (z0d hS _)).toV⟩,hF.mono' (z0d hS _) hle,Ex.newAt i _,Nat.le_succ_of_le hl,hle⟩
 show ob (E.ti.get t) _=_
 rw [hti.get];rfl
theorem zfB {ops:Array Oper} {o:Oper} {rest:List Oper} {K:List KI} {t:Nat} {x:Operand} {a:AV} {cs:List AV} (i:Nat) (hi:bk L i=none) (hg:vgl ops F o.guard=some true) (hd:zI o.dst N=true) (hop:o.op = .box t x) (hx:av F x=some a) (hc:zcP a=some cs)
  (h:VSt.H E N st rd Q (.ops ops rest K (zL o.dst (.ref i 0) F) ((i,.cells cs t)::L))):VSt.H E N st rd Q (.ops ops (o::rest) K F L):=by
 refine z6b hg hd (fun T S Z j hS hF hl=>?_) h
 rw [hop]
 obtain ⟨v,h1,h2⟩:=hF.ev hx
 obtain ⟨h3,h4⟩:=z6a hc h2
 have hle:=z5R hS hi S.size
 refine ⟨ptr S.size 0,S.new (.cells v.cells.toList t),ext j i S.size,fun cF dF=>?_,.ref (z0m _ _ _),SR.newAt hi hS ⟨_,z0c,h4,h3.mono' (z0d hS _) hle⟩,hF.mono' (z0d hS _) hle,Ex.newAt i _,Nat.le_succ_of_le hl,hle⟩
 show ob (T.ev x) _=_
 rw [h1];rfl
theorem zjI {ops:Array Oper} {o:Oper} {rest:List Oper} {K:List KI} {tb:Tab} {t:Nat} {x y:Operand} {ik ik2:IntKind} {n c sz esz elem:Nat} {ag:Bool} {zs:List PV} {ve:VT} (i:Nat) (hT:zM E tb=true) (hi:bk L i=none) (hg:vgl ops F o.guard=some true) (hd:zI o.dst N=true) (hop:o.op = .makeSlice t x y)
  (hx:av F x=some (.p (.int ik (Int.ofNat n)))) (hy:av F y=some (.p (.int ik2 (Int.ofNat c)))) (hi0:z3O tb t=some ⟨sz,ag,.slice elem esz,zs⟩) (hve:z3O tb elem=some ve) (h1:n≤c) (h2:c≤1048576)
  (h:VSt.H E N st rd Q (.ops ops rest K (zL o.dst (.sl i esz 0 n c 1) F) ((i,.arr c esz (fun _=>ve.zero) elem)::L))):VSt.H E N st rd Q (.ops ops (o::rest) K F L):=by
 refine z6b hg hd (fun T S Z j hS hF hl=>?_) h
 rw [hop]
 obtain ⟨q,hti⟩:=zN hT hi0
 obtain ⟨hgs,e,he⟩:=z0t hti.d
 obtain ⟨e',hte⟩:=zN hT hve
 have:e'=e:=by have:=hte.get;rw [he.get] at this;cases this;rfl
 subst this
 obtain ⟨v,k1,k2⟩:=hF.ev hx
 obtain ⟨w,k3,k4⟩:=hF.ev hy
 cases k2 with
 | p k2=>cases k2;cases k4 with
  | p k4 =>
   cases k4
   have hz:=z2f (E:=E) (S:=S) (Z:=Z) hte.zero
   have hle:=z5R hS hi S.size
   refine ⟨.slice (some ⟨S.size,0,none⟩) n c,S.new (.cells (zeros e'.zero.cells.toList c) elem),ext j i S.size,fun cF dF=>?_,?_,SR.newAt hi hS ⟨_,fun _=>e'.zero.cells.toList,z0c,?_,fun k hk=>?_,fun k hk=>hz.mono (z0d hS _)⟩,hF.mono' (z0d hS _) hle,Ex.newAt i _,Nat.le_succ_of_le hl,hle⟩
   ·show ob (T.ev x) (fun a=>ob (T.ev y) fun b=>z2p E t a b S)=_
    rw [k1,k3]
    show ob (E.ti.get t) _=_
    rw [hti.get]
    show ob (z2H q.desc) _=_
    rw [hgs]
    show ob (E.ti.get elem) _=_
    rw [he.get]
    show gd (Nat.ble n c&&(Nat.ble c 1048576&&(Nat.ble e'.bytes 4096&&(Nat.blt 0 e'.size&&Nat.beq e'.zero.cells.size e'.size)))) _=_
    rw [z3m h1,z3m h2,he.bytes,he.zero,show Nat.blt 0 e'.size=true by simpa using he.pos];rfl
   ·have:=VR.sl (E:=E) (S:=S.new (.cells (zeros e'.zero.cells.toList c) elem)) (Z:=Z) (sz:=esz) (off:=0) (n:=n) (cap:=c) (ex:=1) (z0m j i S.size)
    rw [Nat.zero_mul] at this
    exact this
   ·rw [z1Q,z3n he]
   ·have:=z5V e'.zero.cells.toList c k hk
    rw [z3n he] at this;exact this
def z8U {R:Type} (s:VSt) (k:VSt→R):R:=match s with
 | .code c K F L=>z4V [] F fun F=>k (.code c K F L)
 | .ops os rest K F L=>z4V [] F fun F=>k (.ops os rest K F L)
 | .dops os bs ks rest i K F L=>z4V [] F fun F=>k (.dops os bs ks rest i K F L)
 | .ex e K F L=>k (.ex e K F L)
theorem z9R {R:Type} (s:VSt) (k:VSt→R):z8U s k=k (z2w s):=by
 cases s <;> (unfold z8U z2w;simp only [z5N])
theorem zg {tb:Tab} (hT:zM E tb=true) (z:Bool) (sp:List Nat) (n:Nat) {obs:List Prop} {s s':VSt}
  (h:z8U s (fun s1=>match zd0 tb N st z sp n [] s1 with | (o,s2)=>z8U s2 fun s3=>(o,s3))=(obs,s')) (ho:AllP obs) (hs:s'.H E N st rd Q):s.H E N st rd Q:=by
 rw [z9R] at h
 have h2:(zd0 tb N st z sp n [] (z2w s)).1=obs∧z2w (zd0 tb N st z sp n [] (z2w s)).2=s':=by
  revert h
  generalize zd0 tb N st z sp n [] (z2w s)=q
  obtain ⟨o,s2⟩:=q
  intro h
  have h:z8U s2 (fun s3=>(o,s3))=(obs,s'):=h
  rw [z9R] at h
  cases h;exact ⟨rfl,rfl⟩
 refine z7D (VSt.run hT z sp n (obs:=obs) (s':=(zd0 tb N st z sp n [] (z2w s)).2) ?_ ho (z7D ?_))
 ·rw [←h2.1]
 ·rw [h2.2];exact hs
theorem ze8 {F0:VK} {i n sz:Nat} {f:Nat→List PV} {t:TypeId} (hb:bk L i=some (.arr n sz f t))
  (hF:∀ q∈F0,∃ a,ak F q.1=some a∧((a.only (fun _=>false)=true∧a=q.2)∨∃ k c ex,k≤n∧k≤c∧a = .sl i sz 0 k c ex∧q.2 = .p (.lst t false k f))):Vw E [] F L F0 []:=by
 intro T S Z j hS hT
 obtain ⟨b,hj,vs,g,h1,h2,h3,h4⟩:=hS.blk i _ hb id
 let Z':Nat→Prop:=fun c=>Z c∨∃ k,j k=some c
 have zj:∀ k c,j k=some c→Z' c:=fun k c h=>.inr ⟨k,h⟩
 have hzl:ZLe E S Z S Z':=fun c hc=>⟨.inl hc,rfl⟩
 have rdj:∀ k c,j k=some c→rdc E S c=S.cells c:=fun k c h=>hS.rd h
 have hrom:∀ k c,j k=some c→E.rom.get c=none:=fun k c h=>hS.unrom h
 have htab:∀ (ex:Option Nat) (k c:Nat),k≤n→k≤c→PR E S Z' (.lst t false k f) (.slice (some ⟨b,0,ex⟩) k c):=fun ex k c hk hc =>
  .lst (sz:=sz) g (zj i b hj) ((rdj i b hj).trans h1) hc (yu _) (.inr ⟨rfl,hrom i b hj⟩) (fun x hx=>by rw [Nat.zero_add];exact h3 x (yo hx hk)) (fun x hx=>(h4 x (yo hx hk)).mono hzl)
 refine ⟨Z',fun _=>none,⟨fun c hc=>?_,fun k c h=>(by cases h),fun k k' c h=>(by cases h),fun k _=>rfl,fun k vb h=>(by cases h),fun c q hc=>⟨(hS.rom c q hc).1,fun k h=>(by cases h)⟩⟩,fun t a ha=>?_,⟨ym _,fun _ _ _=>rfl,fun c hc=>.inl hc,fun c hc=>?_,fun k c h=>(by cases h),ym _,fun _ h _ _=>h⟩,fun k hk=>by cases hk⟩
 ·rcases hc with hc | ⟨k,hk⟩
  ·exact hS.zlt c hc
  ·exact (hS.jlt k c hk).1
 ·obtain ⟨a0,k1,k2⟩:=hF _ (z4k ha)
  obtain ⟨v,k3,k4⟩:=hT _ _ k1
  refine ⟨v,k3,?_⟩
  rcases k2 with ⟨k5,k6⟩ | ⟨k,c,ex,kn,kc,k5,k6⟩
  ·rw [←show a0=a from k6]
   exact k4.mono (g:=fun _=>false) hzl (fun _ _ h _=>(by cases h)) k5
  ·rw [show a=_ from k6]
   rw [k5] at k4
   cases k4 with
   | sl hjk =>
    rw [hj] at hjk;cases hjk
    rw [Nat.zero_mul]
    exact .p (htab _ _ _ kn kc)
 ·rcases hc with hc | ⟨k,hk⟩
  ·exact .inl hc
  ·exact .inr (.inr ⟨k,hk⟩)
theorem zaI {F:VK} {i n sz:Nat} {f:Nat→List PV} {t:TypeId}:∀ q∈([]:VK),∃ a,ak F q.1=some a∧((a.only (fun _=>false)=true∧a=q.2)∨∃ k c ex,k≤n∧k≤c∧a = .sl i sz 0 k c ex∧q.2 = .p (.lst t false k f)):=fun q h=>by cases h
theorem zpr {F F0:VK} {i n sz:Nat} {f:Nat→List PV} {t:TypeId} {d:Nat} {a:AV} (h:ak F d=some a) (ho:a.only (fun _=>false)=true) (hl:∀ q∈F0,∃ a,ak F q.1=some a∧((a.only (fun _=>false)=true∧a=q.2)∨∃ k c ex,k≤n∧k≤c∧a = .sl i sz 0 k c ex∧q.2 = .p (.lst t false k f))) :
  ∀ q∈(d,a)::F0,∃ a,ak F q.1=some a∧((a.only (fun _=>false)=true∧a=q.2)∨∃ k c ex,k≤n∧k≤c∧a = .sl i sz 0 k c ex∧q.2 = .p (.lst t false k f)):=fun q hq=>by
 rcases List.mem_cons.1 hq with rfl | hq
 ·exact ⟨a,h,.inl ⟨ho,rfl⟩⟩
 ·exact hl q hq
theorem zik {F F0:VK} {i n sz:Nat} {f:Nat→List PV} {t:TypeId} {d k c ex:Nat} (h:ak F d=some (.sl i sz 0 k c ex)) (hk:k≤n) (hc:k≤c) (hl:∀ q∈F0,∃ a,ak F q.1=some a∧((a.only (fun _=>false)=true∧a=q.2)∨∃ k c ex,k≤n∧k≤c∧a = .sl i sz 0 k c ex∧q.2 = .p (.lst t false k f))) :
  ∀ q∈(d,.p (.lst t false k f))::F0,∃ a,ak F q.1=some a∧((a.only (fun _=>false)=true∧a=q.2)∨∃ k c ex,k≤n∧k≤c∧a = .sl i sz 0 k c ex∧q.2 = .p (.lst t false k f)):=fun q hq=>by
 rcases List.mem_cons.1 hq with rfl | hq
 ·exact ⟨_,h,.inr ⟨k,c,ex,hk,hc,rfl,rfl⟩⟩
 ·exact hl q hq
theorem zly {F0:VK} {i n sz:Nat} {f:Nat→List PV} {t:TypeId} (hb:bk L i=some (.acc n sz f t))
  (hF:∀ q∈F0,∃ a,ak F q.1=some a∧((a.only (fun _=>false)=true∧a=q.2)∨(a = .acc true i sz n∧q.2 = .p (.lst t (Nat.beq n 0) n f)))):Vw E [] F L F0 []:=by
 intro T S Z j hS hT
 let Z':Nat→Prop:=fun c=>Z c∨∃ k,j k=some c
 have zj:∀ k c,j k=some c→Z' c:=fun k c h=>.inr ⟨k,h⟩
 have hzl:ZLe E S Z S Z':=fun c hc=>⟨.inl hc,rfl⟩
 refine ⟨Z',fun _=>none,⟨fun c hc=>?_,fun k c h=>(by cases h),fun k k' c h=>(by cases h),fun k _=>rfl,fun k vb h=>(by cases h),fun c q hc=>⟨(hS.rom c q hc).1,fun k h=>(by cases h)⟩⟩,fun t a ha=>?_,⟨ym _,fun _ _ _=>rfl,fun c hc=>.inl hc,fun c hc=>?_,fun k c h=>(by cases h),ym _,fun _ h _ _=>h⟩,fun k hk=>by cases hk⟩
 ·rcases hc with hc | ⟨k,hk⟩
  ·exact hS.zlt c hc
  ·exact (hS.jlt k c hk).1
 ·obtain ⟨a0,k1,k2⟩:=hF _ (z4k ha)
  obtain ⟨v,k3,k4⟩:=hT _ _ k1
  refine ⟨v,k3,?_⟩
  rcases k2 with ⟨k5,k6⟩ | ⟨k5,k6⟩
  ·rw [←show a0=a from k6]
   exact k4.mono (g:=fun _=>false) hzl (fun _ _ h _=>(by cases h)) k5
  ·rw [show a=_ from k6]
   rw [k5] at k4
   cases n with
   | zero =>
    cases k4 with
    | accN=>exact .p (.nil _ _)
   | succ n =>
    cases k4 with
    | accC hjk =>
     obtain ⟨b,hj,vs,g,h1,h2,h3,h4⟩:=hS.blk i _ hb (by intro h;cases h)
     rw [hj] at hjk;cases hjk
     exact .p (.lst (sz:=sz) g (zj i _ hj) ((hS.rd hj).trans h1) (ym _) (yu _) (.inr ⟨rfl,hS.unrom hj⟩) (fun x hx=>by rw [Nat.zero_add];exact h3 x hx) (fun x hx=>(h4 x hx).mono hzl))
 ·rcases hc with hc | ⟨k,hk⟩
  ·exact .inl hc
  ·exact .inr (.inr ⟨k,hk⟩)
theorem SR.addZ {S:St} {Z:Nat→Prop} {j:Nm} {b:Nat} (h:SR E S Z j L) (hb:b<S.size) (hj:∀ i,j i≠some b):SR E S (fun c=>Z c∨c=b) j L :=
 ⟨fun c hc=>by
  rcases hc with hc | rfl
  ·exact h.zlt c hc
  ·exact hb,fun i c hi=>⟨(h.jlt i c hi).1,fun hc=>by
   rcases hc with hc | rfl
   ·exact (h.jlt i c hi).2 hc
   ·exact hj i hi⟩,h.inj,h.dom,fun i vb hi=>by
  rcases h.blk' i vb hi with hv | ⟨c,h1,h2⟩
  ·exact .inl hv
  ·exact .inr ⟨c,h1,h2.mono rfl (fun d hd=>⟨.inl hd,rfl⟩) (fun _ _ h=>h)⟩,h.rom⟩
theorem zky {ops:Array Oper} {o:Oper} {F0:VK} {L0:VS} {c:Call} {f:Operand} {g:FuncId} {first cap args:List AV} {n sz:Nat} {fz:Nat→List PV} {t:TypeId} (hw:Vw E [] F L F0 L0) (hC:VC E [] g (first++(args++cap)) [] (fun a L'=>a = .acc true 0 sz n∧L'=[(0,.acc n sz fz t)])) (hpl:∀ k,k<n→(fz k).all PV.plain=true) (hg:vgd ops F o.guard=some true) (hd:zI o.dst N=true)
  (hop:o.op = .call c) (hc:c.callee = .value f) (hf:av F0 f=some (.fn g first cap)) (ha:avs F0 c.args.toList=some args) (hon:z06 (olds []) (first++(args++cap))=true)
  {T:Fr} {S:St} {Z:Nat→Prop} {j:Nm} (h1:T.n=N) (h2:SR E S Z j L) (h3:FRR E S Z j F T) (h4:S.low≤S.size) :
  ∃ m T' S' Z',(∀ k,m≤k→zq E (Proofs.YtdpipdniklognaaGreat.run E k).call (Proofs.YtdpipdniklognaaGreat.run E k).code ops o T S=some (T',S'))∧T'.n=N∧SR E S' Z' j L∧FRR E S' Z' j (zL o.dst (.p (.lst t (Nat.beq n 0) n fz)) F) T'∧Ex S Z j S' Z' j∧S'.low≤S'.size∧(S.low≤S.size→S'.low=S.low):=by
 obtain ⟨Z1,j1,w1,w2,w3,_⟩:=hw T S Z j h2 h3
 obtain ⟨v,k1,k2⟩:=w2.ev hf
 obtain ⟨vs,k3,k4⟩:=w2.evs ha
 cases k2 with
 | fn q1 q2 =>
  rename_i fa ca
  have hvs:VRs E S Z1 j1 (first++(args++cap)) (fa.toList++(vs++ca.toList)):=q1.append (k4.append q2)
  have hvc:=hvs.ren (r:=rnk []) (ZLe.refl S Z1) (z2i (ps:=[]) rfl) hon
  rw [z8k _ hon] at hvc
  obtain ⟨m,u,S',h5,a,L',Z2,j2,h6,h7,h8,h9,h10,rfl,rfl⟩:=hC S Z1 (z5r [] j1) _ (w1.sel (ps:=[]) rfl rfl) hvc h4
  obtain ⟨a1,a2,a3⟩:=h2.after h8 (fun k=>rfl)
  have hlow:S.low≤S.size→S'.low=S.low:=fun hl=>Nat.le_antisymm h8.low.1 (h8.low.2 S.low (ym _) hl fun k b hk=>by cases hk)
  have key:∃ Z':Nat→Prop,SR E S' Z' j L∧ZLe E S Z S' Z'∧Ex S Z j S' Z' j∧VR E S' Z' j (.p (.lst t (Nat.beq n 0) n fz)) u:=by
   cases n with
   | zero =>
    cases h7 with
    | accN=>exact ⟨Z,a1,a2,a3,.p (.nil _ _)⟩
   | succ n =>
    cases h7 with
    | accC hjk =>
     rename_i b
     obtain ⟨b0,hj0,us,gg,c1,c2,c3,c4⟩:=h6.blk 0 _ rfl (by intro h;cases h)
     rw [hjk] at hj0;cases hj0
     have hbn:S.size≤b:=by
      rcases h8.jn 0 b hjk with h | ⟨i',h⟩
      ·exact h
      ·cases h
     have hbs:=(h6.jlt 0 b hjk).1
     have hnj:∀ i,j i≠some b:=fun i hi=>absurd (h2.jlt i b hi).1 (Nat.not_lt.2 hbn)
     refine ⟨fun c=>Z c∨c=b,a1.addZ hbs hnj,fun d hd=>⟨.inl hd,(a2 d hd).2⟩,⟨a3.size,a3.old,fun d hd=>.inl hd,fun d hd=>?_,a3.jn,a3.low⟩,?_⟩
     ·rcases hd with hd | rfl
      ·exact .inl hd
      ·exact .inr (.inl hbn)
     ·refine .p (.lst (sz:=sz) gg (.inr rfl) ((h6.rd hjk).trans c1) (ym _) (yu _) (.inr ⟨rfl,h6.unrom hjk⟩) (fun x hx=>by rw [Nat.zero_add];exact c3 x hx) (fun x hx=>(c4 x hx).plain (hpl x hx)))
  obtain ⟨Z',b1,b2,b3,b4⟩:=key
  obtain ⟨T',t1,t2,t3⟩:=z0I h1 (h3.mono' b2 fun _ _ h=>h) hd b4
  refine ⟨m,T',S',Z',fun k hk=>?_,t2,b1,t3,b3,h9,hlow⟩
  unfold zq
  rw [z1r hg h3,hop]
  have:zR E (Proofs.YtdpipdniklognaaGreat.run E k).call (Proofs.YtdpipdniklognaaGreat.run E k).code T S (.call c)=some (u,S'):=by
   show ob (T.evs c.args.toList) _=_
   rw [k3,hc]
   show ob (T.ev f) _=_
   rw [k1]
   exact h5 k hk
  show ob (zR E _ _ T S (.call c)) (z3P T o.dst)=_
  rw [this]
  show ob (T.put o.dst u) _=_
  rw [t1];rfl
theorem zgy {ops:Array Oper} {bs:List Nat} {ks:List (Nat×Option Nat)} {i:Nat} {o:Oper} {rest:List Oper} {K:List KI} {F0:VK} {L0:VS} {c:Call} {f:Operand} {g:FuncId} {first cap args:List AV} {n sz:Nat} {fz:Nat→List PV} {t:TypeId} (hw:Vw E [] F L F0 L0) (hg:vgl ops F o.guard=some true) (hd:zI o.dst N=true)
  (hop:o.op = .call c) (hc:c.callee = .value f) (hf:av F0 f=some (.fn g first cap)) (ha:avs F0 c.args.toList=some args) (hon:z06 (olds []) (first++(args++cap))=true) (hC:VC E [] g (first++(args++cap)) [] (fun a L'=>a = .acc true 0 sz n∧L'=[(0,.acc n sz fz t)])) (hpl:∀ k,k<n→(fz k).all PV.plain=true)
  (h:VSt.H E N st rd Q (.dops ops bs ks rest (i+1) K (zL o.dst (.p (.lst t (Nat.beq n 0) n fz)) F) L)):VSt.H E N st rd Q (.dops ops bs ks (o::rest) i K F L):=by
 intro T S Z j D r0 h1 h2 h3 h4 hD hi hks
 obtain ⟨hi1,hi2⟩:=z4S hi
 obtain ⟨m,T',S',Z',k1,k3,k4,k5,k6,k7,k9⟩:=zky hw hC hpl (z1q hg) hd hop hc hf ha hon h1 h2.at0 h3.at0 (ym _)
 have hdr:S.size≤S'.low∨uni bs i=true:=.inl (by rw [k9 (ym _)];exact ym _)
 obtain ⟨n2,r,q1,F2,L2,Z2,j2,q2,q3⟩:=h T' (S.back S') Z' j _ r0 k3 k4.back k5.back (z1P k7) (z0U (size:=S.size) hi1 hD (z1L (k1 m (ym _)))) hi2 (hks.step rfl k6.size fun _ _ h=>h)
 refine ⟨m+n2,r,fun k hk=>?_,F2,L2,Z2,j2,⟨q2.n,q2.sr,q2.fr,k6.back.trans q2.ex,q2.low,q2.stay⟩,q3⟩
 show ob (zq E _ _ ops o T S.at0) _=_
 rw [k1 k (by omega)]
 show ob (z0s ops bs i T S.size S'.low o.op D) _=_
 rw [z2j hi1 hD hdr]
 exact q1 k (by omega)
theorem SR.perm {S:St} {Z:Nat→Prop} {j:Nm} {L':VS} (h:SR E S Z j L) (e:∀ i,bk L' i=bk L i):SR E S Z j L' :=
 ⟨h.zlt,h.jlt,h.inj,fun i hi=>h.dom i (by rw [←e];exact hi),fun i vb hi=>h.blk' i vb (by rw [←e];exact hi),h.rom⟩
theorem Vw.perm {L':VS} (e:∀ i,bk L' i=bk L i):Vw E st F L F L':=fun T S Z j h1 h2=>⟨Z,j,h1.perm e,h2,Ex.refl _ _ _,Stay.refl _ _⟩
end
section
variable {E:Env} {N:Nat} {st:List Nat} {rd:Option Nat} {Q:zK} {F:VK} {L:VS}
def PureR (E:Env) (F:VK) (L:VS) (o:Op) (a:AV):Prop:=∀ T S Z j,SR E S Z j L→FRR E S Z j F T→∃ v n,(∀ k,n≤k→zR E (Proofs.YtdpipdniklognaaGreat.run E k).call (Proofs.YtdpipdniklognaaGreat.run E k).code T S o=some (v,S))∧VR E S Z j a v
theorem PureR.call {c:Call} {f:Operand} {g:FuncId} {args:List AV} {a:AV} (hc:c.callee = .value f) (hf:av F f=some (.fn g [] [])) (ha:avs F c.args.toList=some args)
  (h:∀ S Z j vs,SR E S Z j L→VRs E S Z j args vs→∃ v n,(∀ k,n≤k→(Proofs.YtdpipdniklognaaGreat.run E k).call g vs S=some (v,S))∧VR E S Z j a v):PureR E F L (.call c) a:=by
 intro T S Z j h2 h3
 obtain ⟨v,k1,k2⟩:=h3.ev hf
 obtain ⟨vs,k3,k4⟩:=h3.evs ha
 cases k2 with
 | fn q1 q2 =>
  rename_i fa ca
  have e1:fa.toList=[]:=by
   generalize fa.toList=l at q1
   cases q1;rfl
  have e2:ca.toList=[]:=by
   generalize ca.toList=l at q2
   cases q2;rfl
  obtain ⟨u,n,h5,h6⟩:=h S Z j vs h2 k4
  refine ⟨u,n,fun k hk=>?_,h6⟩
  show ob (T.evs c.args.toList) _=_
  rw [k3,hc]
  show ob (T.ev f) _=_
  rw [k1]
  show (Proofs.YtdpipdniklognaaGreat.run E k).call g (fa.toList++(vs++ca.toList)) S=_
  rw [e1,e2,List.append_nil,List.nil_append]
  exact h5 k hk
end
section
variable {E:Env} {N:Nat} {st:List Nat} {rd:Option Nat} {Q:zK} {F:VK} {L:VS}
end
end
section
open Go.ChangeShapes Go.WideShapes Go.RowKit
section
variable {H:Type} {enc:TypeId×Value→H} {P:Program} {E:Env} {W:World}
def zcQ (P:Program) (E:Env) (B:Nat) (ts:List TypeId) (qs:List (List PV)):Prop :=
 ∀ (k i:Nat) (t e ty:TypeId) (fs:Array Field) (fd:Field) (nb:Bool) (n:Nat) (g:Nat→List PV) (q:List PV),ts[k]? = some t→P.underlying t=some (.struct fs)→zoA E t=true→qs[k]? = some q→fs[i]? = some fd→P.underlying fd.type=some (.slice e)→P.cellsOf fd.type=1→q[fd.offset]? = some (.lst ty nb n g)→n≤B
theorem zlH {E:Env} {S:St} {Z:Nat→Prop} {j:Nm}:∀ {l:List AV} {vs:List Value} {i:Nat} {a:AV},VRs E S Z j l vs→l[i]? = some a→∃ v,vs[i]? = some v∧VR E S Z j a v
 | [],_,i,a,_,h=>by simp at h
 | x::l,_,0,a,hv,h=>by
  cases hv with
  | cons h1 h2 =>
   have:x=a:=by simpa using h
   subst this
   exact ⟨_,rfl,h1⟩
 | x::l,_,i+1,a,hv,h=>by
  cases hv with
  | cons h1 h2 =>
   obtain ⟨v,h3,h4⟩:=zlH (i:=i) h2 (by simpa using h)
   exact ⟨v,by simpa using h3,h4⟩
theorem zlG {J:Inj}:∀ {l vs:List Value} {i:Nat} {a:Value},Yh J l vs→l[i]? = some a→∃ v,vs[i]? = some v∧Yf J a v
 | [],_,i,a,_,h=>by simp at h
 | x::l,_,0,a,hv,h=>by
  cases hv with
  | cons h1 h2 =>
   have:x=a:=by simpa using h
   subst this
   exact ⟨_,rfl,h1⟩
 | x::l,_,i+1,a,hv,h=>by
  cases hv with
  | cons h1 h2 =>
   obtain ⟨v,h3,h4⟩:=zlG (i:=i) h2 (by simpa using h)
   exact ⟨v,by simpa using h3,h4⟩
theorem zbB {S:St} {Z:Nat→Prop} {j:Nm} {J:Inj} {B:Nat} {E2:Env}:∀ {ts:List TypeId} {qs:List (List PV)} {vs' vs:List Value} {ds:List (DataW H)} {ps:List MemPlace},VRs E2 S Z j (z7l E ts qs) vs'→Yh J vs' vs→DataW.TrodAll enc P W 0 (fun _=>true) true ts vs ds ps →
  (∀ parts els sp,DataW.agg parts∈ds→DataW.slice els sp∈parts→els.length≤B)→zcQ P E B ts qs
 | [],qs,_,_,_,_,_,_,_,_=>fun k i t e ty fs fd nb n g q h=>by simp at h
 | t0::ts,[],_,_,_,_,_,_,_,_=>fun k i t e ty fs fd nb n g q _ _ _ h=>by simp at h
 | t0::ts,q0::qs,vs',vs,ds,ps,h1,h2,h3,h4=>fun k i t e ty fs fd nb n g q g1 g2 g3 g4 g5 g6 g7 g8=>by
  obtain ⟨v,vs1,d,ds1,a,b,rfl,rfl,rfl,⟨nn,h5⟩,h6⟩:=trodAll_cons h3
  have h1:VRs E2 S Z j (zcJ E t0 q0::z7l E ts qs) vs':=h1
  cases h1 with
  | cons r1 r2 =>
   cases h2 with
   | cons s1 s2 =>
    cases k with
    | succ k=>exact zbB r2 s2 h6 (fun parts els sp hm=>h4 parts els sp (List.mem_cons_of_mem _ hm)) k i t e ty fs fd nb n g q (by simpa using g1) g2 g3 (by simpa using g4) g5 g6 g7 g8
    | zero =>
     have e1:t0=t:=by simpa using g1
     have e2:q0=q:=by simpa using g4
     subst e1;subst e2
     unfold zcJ at r1
     rw [g3] at r1
     have r1:VR E2 S Z j (.agg (q0.map .p)) _:=r1
     cases r1 with
     | agg hs hv =>
      cases s1 with
      | @agg _ vb ha =>
       obtain ⟨w0,k1,k2⟩:=zlH (i:=fd.offset) hv (by rw [List.getElem?_map,g8];rfl)
       obtain ⟨w,k3,k4⟩:=zlG ha k1
       obtain ⟨xs,m,_,hx,_,hlen,hf⟩:=DataW.trod_struct g2 h5
       have hfi:=hf i fd g5
       rw [g7] at hfi
       have hcs:((vb.toList.drop fd.offset).take 1)=[w]:=by
        obtain ⟨hlt,hw⟩:=List.getElem?_eq_some_iff.1 k3
        rw [List.drop_eq_getElem_cons hlt,hw];rfl
       have hfi:DataW.trod enc P W 0 (fun _=>true) true m fd.type ((vb.toList.drop fd.offset).take 1)=xs[i]? :=hfi
       rw [hcs] at hfi
       have hi:i<xs.length:=by
        rw [hlen]
        exact (Array.getElem?_eq_some_iff.1 g5).1
       rw [List.getElem?_eq_getElem hi] at hfi
       have hd:d = .agg (xs.map (·.1)):=congrArg Prod.fst hx
       subst hd
       cases k2 with
       | p k2 =>
        cases k2 with
        | nil=>exact yu _
        | lst g' hz hc hcap hoff hty hcut hr =>
         cases k4 with
         | slice hss =>
          rcases DataW.trod_slice g6 hfi with ⟨hx2,_⟩ | ⟨a,len,cap,elems,rest,n',_,hx2,hd2,_,hlc,hcm,hel,_⟩
          ·cases hx2
          ·cases hx2
           have hd3:xs[i].1=DataW.slice (elems.map (·.1)) (rest.map (·.1)):=congrArg Prod.fst hd2
           have hm:DataW.slice (elems.map (·.1)) (rest.map (·.1))∈xs.map (·.1):=by
            rw [←hd3]
            exact List.mem_map.2 ⟨xs[i],List.getElem_mem hi,rfl⟩
           have h7:=h4 _ _ _ (List.mem_cons_self) hm
           rw [List.length_map] at h7
           omega
theorem zdD (hG:∀ r,Yj ⟨P,z3o E r⟩) (hW:0<W.heap.size) {m base B:Nat} {f:FuncId} {ts:List TypeId} {args:Array Value} {ds:List (DataW H)} {ps:List MemPlace} {t:Bool} (hs:(ts.all fun t=>sup E m t)=true) (hT:DataW.TrodAll enc P W 0 (fun _=>true) true ts args.toList ds ps)
  (hv:∀ (j:Nat) t v,ts[j]? = some t→args.toList[j]? = some v→Value.okWide P W .any base t v) (hB:∀ parts els sp,DataW.agg parts∈ds→DataW.slice els sp∈parts→els.length≤B) (main:∀ r qs,Shs E m ts qs→zcQ P E B ts qs→VP (z3o E r) f (z7l E ts qs) (.p (.bool t))) :
  Calls P f args W fun e W'=>e = .returned (.bool t)∧SameIo W W'∧W.heap.size≤W'.heap.size∧∀ c,c<W.heap.size→W'.heap[c]? = W.heap[c]? :=by
 have hP:TiP P E:=⟨fun t x h=>(hG .nil).ti t x h⟩
 obtain ⟨L,vs',qs,h1,h2,h3,h4⟩:=zc6 (enc:=enc) hP hW (L:=[]) Valid.nil hs hT hv
 rw [List.append_nil] at h1 h2 h4
 have hsh:zcQ P E B ts qs:=zbB (E:=E) (h4 (fun _=>none)) h2 hT hB
 have hSR:SR (z3o E (z5C L)) (st0 L) (fun b=>b<L.length) (fun _=>none) []:=by
  refine ⟨fun b hb=>hb,fun i b h=>(by cases h),fun i i' b h=>(by cases h),fun _ _=>rfl,fun i vb h=>(by cases h),fun b c hb=>⟨?_,fun i h=>(by cases h)⟩⟩
  have hb:(z5C L).get b=some c:=hb
  rw [z3T] at hb
  cases hsb:sOf L b with
  | none=>rw [hsb] at hb;cases hb
  | some s=>exact zbE hsb
 obtain ⟨n,v,S',k1,a,L',Z',j',k2,k3,k4,k5,_,rfl,rfl⟩:=(main (z5C L) qs h3 hsh).2 (st0 L) _ _ vs' hSR (h4 _) (ym _)
 cases k3 with
 | p k3 =>
  cases k3
  obtain ⟨_,h5⟩:=(z8c (hG (z5C L)) n).1 f vs' _ _ _ (k1 n (ym _))
  obtain ⟨_,h6⟩:=h5 (jOf L) args W (zqt h1) h2
  refine h6.mono ?_
  rintro e W' ⟨v',jj,rfl,hvv,_,he⟩
  have:=hvv.bool_inv;subst this
  refine ⟨rfl,he.io,he.heap,fun c hc=>he.fr c hc fun b x hb hlo _ _=>?_⟩
  have hlow:L.length≤S'.low:=k4.low.2 L.length (ym _) (ym _) (fun i b h=>by cases h)
  have:b<L.length:=by
   unfold jOf at hb
   cases hsb:sOf L b with
   | none=>rw [hsb] at hb;cases hb
   | some s=>exact zbE hsb
  omega
end
section
variable {H:Type} {enc:TypeId×Value→H}
theorem zc7 {C:Checked} {os:Os} {E:Env} {f:FuncId} {fn:Func} {s:ChangeSpec} {k:(H:Type)→List (DataW H)→Bool} {F:Stop.Interp} {fresh handsOn again:Bool} {m B:Nat} {tb:TypeId}
  (own:ownKnob C.prog.godebug=none) (started:os.Started) (noInit:C.prog.inits.idxOf? f=none) (hfn:C.prog.funcs[f]? = some fn)
  (witness:∃ (w:World) (tape:Tape) (i:Input),w.os=os∧(w.forCall tape i).Shaped C.prog∧i.vars=[]∧Input.okWide C.prog (w.forCall tape i) .any w.heap.size f i ∧
   ({ OpenSpec.ofChange s with cond:=some k }:OpenSpec).pre6 enc C.prog fn [] false (w.forCall tape i).memory i.args∧({}:Assume).holds C.prog (lone (Frame.enter C.prog f i.args .normal) [] (w.forCall tape i)))
  (hsize:C.prog.globals.size<(begin C.prog (fun _ _=>0) default).world.heap.size) (hG:∀ r,Yj ⟨C.prog,z3o E r⟩) (hs:(fn.params.toList.all fun t=>sup E m t)=true)
  (hl:laidOutB C.prog=true) (hps:(fn.params.toList.all fun t=>C.prog.readableRec t&&decide (t<C.prog.types.size))=true) (hrt:fn.resultTypes = #[tb]) (htb:C.prog.underlying tb=some .bool) (hvs:s.vars=[])
  (hres:∀ ds:List (DataW H),ds.length=fn.params.size→(s.fn H (ds++[])).results=[.lit (.bool true)]∧(s.fn H (ds++[])).args=ds∧(s.fn H (ds++[])).vars=[])
  (hB:∀ ds:List (DataW H),k H ds=true→∀ parts els sp,DataW.agg parts∈ds→DataW.slice els sp∈parts→els.length≤B)
  (main:∀ r qs,Shs E m fn.params.toList qs→zcQ C.prog E B fn.params.toList qs→VP (z3o E r) f (z7l E fn.params.toList qs) (.p (.bool true))) :
  ReturnsInHanded {} C os f .any (({ OpenSpec.ofChange s with cond:=some k }:OpenSpec).pre6 enc C.prog fn [] false) ((({ OpenSpec.ofChange s with cond:=some k }:OpenSpec).at F).post enc C.prog fn false fresh handsOn again):=by
 refine returnsInHanded_of_calls own started noInit witness ?_
 intro w tape i _ hshaped _ hok hpre hholds
 obtain ⟨_,_,_,fn',hfn',_,_,_,_,hval⟩:=hok
 have e:fn'=fn:=Option.some.inj (hfn'.symm.trans hfn)
 subst e
 obtain ⟨ds,gs,before,hw,hc,hkk⟩:=(OpenSpec.pre_some (k:=k) rfl [] false _ _).1 hpre.1
 have hw':=DataW.Whole.of_heap (w':=w.forCall tape i) (by rfl) hw
 have hW:0<(w.forCall tape i).heap.size:=by
  obtain ⟨o,_,ho,_⟩:=hshaped.2 _ (ym _) hsize
  have:=(Array.getElem?_eq_some_iff.1 ho).1
  omega
 obtain ⟨p,q,hA,hV,_⟩:=id hw'
 have hvs2:({ OpenSpec.ofChange s with cond:=some k }:OpenSpec).vars=[]:=hvs
 rw [hvs2] at hV
 obtain ⟨rfl,_⟩:=trodVars_none hV
 have hlen:ds.length=fn'.params.size:=by
  have:∀ {ts:List TypeId} {vs:List Value} {ds:List (DataW H)} {ps:List MemPlace},DataW.TrodAll enc C.prog (w.forCall tape i) 0 (fun _=>true) true ts vs ds ps→ds.length=ts.length:=by
   intro ts
   induction ts with
   | nil=>intro vs ds ps h;obtain ⟨_,rfl,_⟩:=trodAll_nil h;rfl
   | cons t ts ih =>
    intro vs ds ps h
    obtain ⟨v,vs1,d,ds1,a,b,rfl,rfl,rfl,_,h2⟩:=trodAll_cons h
    simp [ih h2]
  rw [this hA,Array.length_toList]
 obtain ⟨r1,r2,r3⟩:=hres ds hlen
 rw [List.append_nil] at hkk
 have hcalls:=zdD (enc:=enc) (P:=C.prog) (E:=E) (W:=w.forCall tape i) (base:=w.heap.size) (f:=f) (ts:=fn'.params.toList) (args:=i.args) (t:=true) hG hW hs hA (fun j t v h1 h2=>hval j t v (by rw [←Array.getElem?_toList];exact h1) (by rw [←Array.getElem?_toList];exact h2)) (hB ds hkk) main
 refine hcalls.mono ?_
 rintro e W' ⟨rfl,hio,hsz,hsame⟩
 refine ChangeSpec.post_blind (s:=s) (zkT hl hps hrt htb hvs r1 r2 r3 hw' (zlq hio hsz hsame))
end
end
section
noncomputable def zmN (ops:Array Oper) (bs:List Nat) (F:VK) (at_ i:Nat) (o:Op):Bool:=ops.toList.zipIdx.all fun p=>Nat.beq p.2 i||(z6I bs i p.2||((idle p.1.op||loadAt ops.toList F at_ p.1.op)||(Nat.blt p.2 i&&(z9D ops.toList F at_ p.2 p.1.op||z7r o p.1.op))))
section
variable {E:Env} {S:St} {Z:Nat→Prop} {j:Nm} {F:VK} {T T0:Fr} {L:VS} {at_ X:Nat} {ops:Array Oper} {bs:List Nat} {r0:Nat}
theorem znV {i:Nat} {o:Oper} {D:Dr} {T':Fr} {size low:Nat} (hS:SR E S Z j L) (hF:FRR E S Z j F T) (hj:j at_=some X) (hi:ops.toList[i]? = some o) (hD:DI ops.toList bs r0 i D T) (ht:StepT o T T') (hX:storeAt T o.op=some X) (hr:X<r0) (hc:zmN ops bs F at_ i o.op=true) :
  ∃ D',z0s ops bs i T size low o.op D=some D'∧DI ops.toList bs r0 (i+1) D' T'∧D'.starts=D.starts++[size]:=by
 have pair:∀ (T0:Fr) (k:Nat) (o':Oper) (t:Option (List Nat)) (r m:Nat),Agree ops.toList T0 T→ops.toList[k]? = some o'→k≠i→z4m ops.toList T0 k o'.op t→z1j bs r i X m k t=true∨(k<i∧(z9D ops.toList F at_ k o'.op=true∨z7r o.op o'.op=true)):=by
  intro T0 k o' t r m ha hk hne ht
  have:=List.all_eq_true.1 hc (o',k) (List.mk_mem_zipIdx_iff_getElem?.2 hk)
  rw [Bool.or_eq_true] at this
  rcases this with h1 | h1
  ·exact absurd (zm h1) hne
  ·rw [Bool.or_eq_true] at h1
   rcases h1 with h1 | h1
   ·refine .inl ?_
    unfold z1j;rw [h1];rfl
   ·rw [Bool.or_eq_true] at h1
    rcases h1 with h1 | h1
    ·exact .inl (z8q hS hF ha hj h1 ht)
    ·rw [yw,Bool.or_eq_true] at h1
     exact .inr ⟨z0w h1.1,h1.2⟩
 unfold z0s
 rw [z5T hi hD]
 cases hb:(Nat.ble size low||uni bs i) with
 | true=>exact ⟨_,rfl,z0U hi hD ht,rfl⟩
 | false =>
  show ∃ D',obE (storeAt T o.op) _ _=_∧_
  rw [hX]
  have hD0:=z0U (size:=size) hi hD ht
  obtain ⟨⟨T0,ha,hP,hD⟩,hL⟩:=hD
  have h1:(Nat.blt X D.r||((bs[i]?).getD 0).testBit (zx X (D.starts++[size]) - 1))=true:=by
   rw [Bool.or_eq_true,hD.r]
   exact .inl (by simpa using hr)
  have h2:z1N ops o.op bs D.r i X (zx X (D.starts++[size]) - 1) D.recs=true:=by
   unfold z1N
   refine List.all_eq_true.2 fun q hq=>?_
   rw [Bool.or_eq_true]
   obtain ⟨h3,h4⟩:=hD.recs q hq
   have hlt:q.1<ops.toList.length:=by
    have:=(List.getElem?_eq_some_iff.1 hi).1
    omega
   have hq1:ops.toList[q.1]? = some ops.toList[q.1]:=List.getElem?_eq_getElem hlt
   rcases pair T0 _ _ _ D.r (zx X (D.starts++[size]) - 1) ha hq1 (by omega) (h4 _ hq1) with h5 | ⟨_,h5 | h5⟩
   ·exact .inl h5
   ·exact .inl (zbN hS hF hj hL hq hq1 h5)
   ·refine .inr ?_
    unfold zoU
    have:ops[q.1]? = some ops.toList[q.1]:=by rw [←Array.getElem?_toList];exact hq1
    rw [this];exact h5
  show ∃ D',gd ((Nat.blt X D.r||((bs[i]?).getD 0).testBit (zx X (D.starts++[size]) - 1))&&z1N ops o.op bs D.r i X (zx X (D.starts++[size]) - 1) D.recs) _=_∧_
  rw [h1,h2]
  refine ⟨_,rfl,⟨⟨T0,ha.step hi ht,hP.step hi ht,?_⟩,z4a hi hL (fun q hq=>(hD.recs q hq).1) ht rfl⟩,rfl⟩
  refine ⟨hD.r,fun q hq=>?_,fun q hq=>?_,fun q hq=>⟨Nat.lt_succ_of_lt (hD.rgs q hq).1,(hD.rgs q hq).2⟩⟩
  ·rcases List.mem_cons.1 hq with rfl | hq
   ·refine ⟨Nat.lt_succ_self _,fun o' ho'=>?_⟩
    rw [hi] at ho';cases ho'
    exact z3q ha hP _
   ·exact ⟨Nat.lt_succ_of_lt (hD.recs q hq).1,(hD.recs q hq).2⟩
  ·rcases List.mem_cons.1 hq with rfl | hq
   ·exact ⟨Nat.lt_succ_self _,fun k o t hk hne ht=>(pair T0 _ _ _ _ _ ha hk (by have h6:i<k:=hne;omega) ht).resolve_right fun h6=>by have h7:i<k:=hne;omega⟩
   ·exact ⟨Nat.lt_succ_of_lt (hD.wrs q hq).1,(hD.wrs q hq).2⟩
end
theorem zlY {L:VS} {k:Nat} {v:VB} (hb:bk L k=some v) (ha:zaN v=false):∀ {l:VS},(l.any fun q=>Nat.beq q.1 k)=true→(k,none)∈ksL L l
 | [],h=>by cases h
 | (k0,v0)::l,h=>by
  have h:(Nat.beq k0 k||l.any fun q=>Nat.beq q.1 k)=true:=h
  simp only [ksL]
  cases hk:Nat.beq k0 k with
  | true =>
   have:=zm hk
   subst this
   rw [hb]
   show (k0,none)∈(bif zaN v then ksL L l else (k0,none)::ksL L l)
   rw [ha];exact List.mem_cons_self
  | false =>
   rw [hk,Bool.false_or] at h
   have ih:=zlY hb ha h
   split
   ·rename_i w hw
    cases zaN w with
    | true=>exact ih
    | false=>exact List.mem_cons_of_mem _ ih
   ·exact ih
theorem znx {ks:List (Nat×Option Nat)} {kind at_ i:Nat} {L L':VS} {x:Nat×Option Nat} (hk:Nat.beq kind 2=false) (h:x∈ks):x∈zkU ks kind at_ L L' i:=by
 have h2:ks2 ks kind at_=ks:=by unfold ks2;rw [hk];rfl
 unfold zkU
 rw [h2]
 cases (zit L L' && !hdA L') with
 | true=>exact List.mem_cons_of_mem _ h
 | false=>exact h
section
variable {E:Env} {N:Nat} {st:List Nat} {rd:Option Nat} {Q:zK} {F:VK} {L:VS}
theorem zjF {ops:Array Oper} {bs:List Nat} {ks:List (Nat×Option Nat)} {i:Nat} {o:Oper} {rest:List Oper} {K:List KI} {a:AV} {L':VS} (hg:vgl ops F o.guard=some true) (hd:zI o.dst N=true) (hu:uni bs i=true)
  (hv:∀ T S Z j,SR E S Z j L→FRR E S Z j F T→S.low≤S.size→∃ v S' j',(∀ cF dF,zR E cF dF T S o.op=some (v,S'))∧VR E S' Z j' a v∧SR E S' Z j' L'∧FRR E S' Z j' F T∧Ex S Z j S' Z j'∧S'.low≤S'.size∧∀ i b,j i=some b→j' i=some b)
  (h:VSt.H E N st rd Q (.dops ops bs ks rest (i+1) K (zL o.dst a F) L')):VSt.H E N st rd Q (.dops ops bs ks (o::rest) i K F L):=by
 intro T S Z j D r0 h1 h2 h3 h4 hD hi hks
 obtain ⟨hi1,hi2⟩:=z4S hi
 obtain ⟨u,S',j',h5,h6,a1,a2,a3,a4,a5⟩:=hv T S.at0 Z j h2.at0 h3.at0 (ym _)
 obtain ⟨T',h7,h8,h9⟩:=z0I (S:=S') h1 a2 hd h6
 have s1:∀ m,zq E (Proofs.YtdpipdniklognaaGreat.run E m).call (Proofs.YtdpipdniklognaaGreat.run E m).code ops o T S.at0=some (T',S'):=fun m=>by
  unfold zq
  rw [z1r (z1q hg) h3.at0]
  show ob (zR E _ _ T S.at0 o.op) (z3P T o.dst)=_
  rw [h5]
  show ob (T.put o.dst u) _=_
  rw [h7];rfl
 obtain ⟨n2,r,q1,F2,L2,Z2,j2,q2,q3⟩:=h T' (S.back S') Z j' _ r0 h8 (SR.back (S:=S) a1) (FRR.back (S:=S) h9) (z1P a4) (z0U (size:=S.size) hi1 hD (z1L (s1 0))) hi2 (hks.step rfl a3.size a5)
 refine ⟨n2,r,fun m hm=>?_,F2,L2,Z2,j2,⟨q2.n,q2.sr,q2.fr,a3.back.trans q2.ex,q2.low,Stay.trans (fun i _ b hb=>a5 i b hb) q2.stay⟩,q3⟩
 show ob (zq E _ _ ops o T S.at0) _=_
 rw [s1 m]
 show ob (z0s ops bs i T S.size S'.low o.op D) _=_
 rw [z2j hi1 hD (.inr hu)]
 exact q1 m hm
theorem zjG {ops:Array Oper} {bs:List Nat} {ks:List (Nat×Option Nat)} {i:Nat} {o:Oper} {rest:List Oper} {K:List KI} {a:AV} {L':VS} (at_:Nat) (hg:vgl ops F o.guard=some true) (hd:zI o.dst N=true) (hk:(at_,none)∈ks) (hc:zmN ops bs F at_ i o.op=true)
  (hv:∀ T S Z j,SR E S Z j L→FRR E S Z j F T→S.low≤S.size→∃ v S' X,j at_=some X∧storeAt T o.op=some X∧(∀ cF dF,zR E cF dF T S o.op=some (v,S'))∧VR E S' Z j a v∧SR E S' Z j L'∧FRR E S' Z j F T∧Ex S Z j S' Z j∧S'.low≤S'.size)
  (h:VSt.H E N st rd Q (.dops ops bs ks rest (i+1) K (zL o.dst a F) L')):VSt.H E N st rd Q (.dops ops bs ks (o::rest) i K F L):=by
 intro T S Z j D r0 h1 h2 h3 h4 hD hi hks
 obtain ⟨hi1,hi2⟩:=z4S hi
 obtain ⟨u,S',X,b1,b2,h5,h6,a1,a2,a3,a4⟩:=hv T S.at0 Z j h2.at0 h3.at0 (ym _)
 obtain ⟨T',h7,h8,h9⟩:=z0I (S:=S') h1 a2 hd h6
 have s1:∀ m,zq E (Proofs.YtdpipdniklognaaGreat.run E m).call (Proofs.YtdpipdniklognaaGreat.run E m).code ops o T S.at0=some (T',S'):=fun m=>by
  unfold zq
  rw [z1r (z1q hg) h3.at0]
  show ob (zR E _ _ T S.at0 o.op) (z3P T o.dst)=_
  rw [h5]
  show ob (T.put o.dst u) _=_
  rw [h7];rfl
 obtain ⟨b',hb1,hb2⟩:=hks.2.2.2 _ hk
 rw [b1] at hb1;cases hb1
 ·have hb2:X<r0:=hb2
  obtain ⟨D',d1,d2,d3⟩:=znV (size:=S.size) (low:=S'.low) h2.at0 h3.at0 b1 hi1 hD (z1L (s1 0)) b2 hb2 hc
  obtain ⟨n2,r,q1,F2,L2,Z2,j2,q2,q3⟩:=h T' (S.back S') Z j D' r0 h8 (SR.back (S:=S) a1) (FRR.back (S:=S) h9) (z1P a4) d2 hi2 (hks.step d3 a3.size fun _ _ h=>h)
  refine ⟨n2,r,fun m hm=>?_,F2,L2,Z2,j2,⟨q2.n,q2.sr,q2.fr,a3.back.trans q2.ex,q2.low,q2.stay⟩,q3⟩
  show ob (zq E _ _ ops o T S.at0) _=_
  rw [s1 m]
  show ob (z0s ops bs i T S.size S'.low o.op D) _=_
  rw [d1]
  exact q1 m hm
end
end
end Go.Proofs.YtdpipdniklognaaGreat
