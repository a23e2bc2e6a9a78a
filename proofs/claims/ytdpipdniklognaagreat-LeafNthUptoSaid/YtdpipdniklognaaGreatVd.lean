/- The program's LeafNth returns true for all numbers that describe a book and all lists of Ids, without an exception and without changing its arguments: a part of the proof. -/
import Derived.Test.YtdpipdniklognaaGreatVc
import Derived.ChangeArms
import Derived.OpenShut
set_option linter.all false
/- Appends: what a walk sees is so; all operations. -/
set_option maxRecDepth 100000
namespace Go.Proofs.YtdpipdniklognaaGreat
section
noncomputable section
section
variable {S:St} {Z:Nat→Prop} {j:Nm} {E:Env} {tb:Tab} {L:VS} {F:VK} {T:Fr}
theorem z1X {a b r:List Value} {x n:Nat} (h:cut a x n=some r):cut (a++b) x n=some r:=by
 have h1:=z3F h
 rw [z0D h1] at h
 rw [z0D (by simp;omega),←h]
 congr 1
 apply List.ext_getElem?
 intro i
 rw [List.getElem?_take,List.getElem?_take]
 split
 ·rw [List.getElem?_drop,List.getElem?_drop,List.getElem?_append_left (by omega)]
 ·rfl
theorem z1z {a b r:List Value} {x n:Nat} (h:cut b x n=some r):cut (a++b) (a.length+x) n=some r:=by
 have h1:=z3F h
 rw [z0D h1] at h
 rw [z0D (by simp;omega),←h,←List.drop_drop,List.drop_left]
theorem z1v {i n sz:Nat} (h:i<n):i*sz+sz≤n*sz:=by
 have:=Nat.mul_le_mul_right sz (show i+1≤n by omega)
 rw [Nat.succ_mul] at this;exact this
theorem z2x {ty k esz:Nat} {nb:Bool} {f:Nat→List PV} {v:Value} (h:PR E S Z (.lst ty nb k f) v) (hp:0<esz) (hl:∀ i,i<k→(f i).length=esz) :
  ∃ new,∃ g:Nat→List Value,z2R v=some k∧z0E E esz k v S=some new∧new.length=k*esz∧new.all scalar=true∧(∀ i,i<k→cut new (i*esz) esz=some (g i))∧∀ i,i<k→PRs E S Z (f i) (g i):=by
 cases h with
 | nil=>exact ⟨[],fun _=>[],rfl,rfl,by simp,rfl,fun i hi=>by omega,fun i hi=>by omega⟩
 | lst g hz hc hcap hoff hty hcut hps =>
  rename_i b o cap sz sp cs t
  by_cases hk:k=0
  ·subst hk
   refine ⟨[],g,rfl,?_,by simp,rfl,fun i hi=>by omega,fun i hi=>by omega⟩
   show ob (rdc E S b) _=_
   rw [hc]
   show cut cs o (0*esz)=_
   rw [Nat.zero_mul,z0D (by omega)];simp
  ·have hsz:sz=esz:=by
    have h1:=(hps 0 (by omega)).length
    rw [z1Z (hcut 0 (by omega)),hl 0 (by omega)] at h1
    exact h1.symm
   subst hsz
   have hend:o+k*sz≤cs.length:=by
    have:=z3F (hcut (k - 1) (by omega))
    have e:(k - 1)*sz+sz=k*sz:=by rw [←Nat.succ_mul];congr 1;omega
    omega
   have hnew:=z0D hend
   have hcs:∀ i,i<k→cut ((cs.drop o).take (k*sz)) (i*sz) sz=some (g i):=by
    intro i hi
    have h1:=z1v (sz:=sz) hi
    have h2:=z96 hnew (a:=i*sz) (m:=sz) h1
    rw [hcut i hi] at h2
    rw [z0D (by rw [z1Z hnew];exact h1)]
    exact h2.symm
   refine ⟨(cs.drop o).take (k*sz),g,rfl,?_,z1Z hnew,?_,hcs,hps⟩
   ·show ob (rdc E S b) _=_
    rw [hc];exact hnew
   ·rw [List.all_eq_true]
    intro x hx
    obtain ⟨m,hm⟩:=List.mem_iff_getElem?.1 hx
    have hml:=(List.getElem?_eq_some_iff.1 hm).1
    rw [z1Z hnew] at hml
    have hi:m / sz<k:=(Nat.div_lt_iff_lt_mul hp).2 hml
    have h1:=zaY (hcs _ hi) (i:=m % sz) (Nat.mod_lt _ hp)
    rw [show m / sz*sz+m % sz=m by rw [Nat.mul_comm];exact Nat.div_add_mod m sz,hm] at h1
    have h2:=(hps _ hi).scalars
    rw [List.all_eq_true] at h2
    exact h2 x (List.mem_of_getElem? h1.symm)
theorem SR.rda {b i:Nat} {c:List Value×TypeId} (hS:SR E S Z j L) (hj:j i=some b) (hc:S.cells b=some c) (o:Nat) (sp:Option Nat):Proofs.YtdpipdniklognaaGreat.rda E S ⟨b,o,sp⟩=some c:=by
 have hn:E.rom.get b=none:=by
  cases hr:E.rom.get b with
  | none=>rfl
  | some q=>exact absurd hj ((hS.rom b q hr).2 i)
 unfold Proofs.YtdpipdniklognaaGreat.rda
 cases sp with
 | none=>exact (hS.rd hj).trans hc
 | some x =>
  change Option.rec (motive:=fun _=>Option (List Value×TypeId)) (S.cells b) (fun _=>none) (E.rom.get b)=_
  rw [hn];exact hc
theorem SR.newAt {id:Nat} {o:Yg} {vb:VB} (hid:bk L id=none) (hS:SR E S Z j L) (hb:BR E (S.new o) Z (ext j id S.size) S.size vb):SR E (S.new o) Z (ext j id S.size) ((id,vb)::L):=by
 have hle:∀ i b',j i=some b'→ext j id S.size i=some b':=fun i b' h=>by
  unfold ext
  by_cases e:i=id
  ·subst e;rw [hS.dom _ hid] at h;cases h
  ·rw [if_neg e];exact h
 refine ⟨fun b hb=>Nat.lt_succ_of_lt (hS.zlt b hb),fun i b hi=>?_,fun i i' b hi hi'=>?_,fun i hi=>?_,fun i vb' hi=>?_,fun b c hb=>⟨Nat.lt_succ_of_lt (hS.rom b c hb).1,fun i hi=>?_⟩⟩
 ·unfold ext at hi
  split at hi
  ·cases hi
   exact ⟨Nat.lt_succ_self _,fun hz=>Nat.lt_irrefl _ (hS.zlt _ hz)⟩
  ·exact ⟨Nat.lt_succ_of_lt (hS.jlt i b hi).1,(hS.jlt i b hi).2⟩
 ·unfold ext at hi hi'
  split at hi
  ·cases hi
   split at hi'
   ·rename_i e1 e2;rw [e1,e2]
   ·have:=(hS.jlt _ _ hi').1;omega
  ·split at hi'
   ·cases hi';have:=(hS.jlt _ _ hi).1;omega
   ·exact hS.inj i i' b hi hi'
 ·rw [zA] at hi
  split at hi
  ·cases hi
  ·rename_i e
   unfold ext;rw [if_neg e];exact hS.dom i hi
 ·rw [zA] at hi
  split at hi
  ·rename_i e
   cases hi;subst e
   exact .inr ⟨S.size,z0m _ _ _,hb⟩
  ·rename_i e
   rcases hS.blk' i vb' hi with hv | ⟨b,h1,h2⟩
   ·exact .inl hv
   refine .inr ⟨b,hle i b h1,h2.mono (z5h ?_) (z0d hS o) hle⟩
   have:=(hS.jlt _ _ h1).1;omega
 ·unfold ext at hi
  split at hi
  ·cases hi;exact Nat.lt_irrefl _ (hS.rom _ c hb).1
  ·exact (hS.rom b c hb).2 i hi
def jrm (j:Nm) (b:Nat):Nm:=fun i=>if i=b then none else j i
theorem zaV {j:Nm} {c q s i b:Nat} (h0:j i=none) (h1:ext (jrm j c) q s i=some b):s≤b:=by
 refine z2A ?_ h1
 unfold jrm
 split
 ·rfl
 ·exact h0
theorem z1l {b:Nat}:∀ i b',i≠b→j i=some b'→jrm j b i=some b':=fun i b' h hj=>by unfold jrm;rw [if_neg h];exact hj
theorem FRR.purge {S':St} {Z':Nat→Prop} {j':Nm} {b:Nat} (hF:FRR E S Z j F T) (hz:ZLe E S Z S' Z') (hj:∀ i b',i≠b→j i=some b'→j' i=some b'):FRR E S' Z' j' (z6V b F) T:=by
 intro t a ha
 obtain ⟨w,h1,rfl⟩:=zcO ha
 obtain ⟨v,h2,h3⟩:=hF t w h1
 exact ⟨v,h2,zhK hz hj h3⟩
theorem zaR {b k:Nat} {p:Nat→PV}:∀ {xs:List (Nat×AV)},z5L p (z8n b xs) k=z6W b (z5L p xs k)
 | []=>rfl
 | (i,a)::l=>by
  simp only [z8n,z5L]
  cases Nat.beq i k with
  | true=>rfl
  | false=>exact zaR
theorem zch {b k:Nat} {p:Nat→Option PV}:∀ {xs:List (Nat×AV)},zci p (z8n b xs) k=zci p xs k
 | []=>rfl
 | (i,a)::l=>by
  simp only [z8n,zci]
  cases Nat.beq i k with
  | true=>rfl
  | false=>exact zch
theorem BR.purge {S':St} {Z':Nat→Prop} {j':Nm} {b c:Nat} {vb:VB} (h:BR E S Z j c vb) (hh:S'.heap.get c=S.heap.get c) (hz:ZLe E S Z S' Z') (hj:∀ i b',i≠b→j i=some b'→j' i=some b'):BR E S' Z' j' c (zeH b vb):=by
 have hc:S'.cells c=S.cells c:=by unfold St.cells;rw [hh]
 cases vb with
 | cells cs t=>obtain ⟨vs,h1,h2,h3⟩:=h;exact ⟨vs,hc.trans h1,h2,z5D hz hj h3⟩
 | arr n sz f t=>obtain ⟨vs,g,h1,h2,h3,h4⟩:=h;exact ⟨vs,g,hc.trans h1,h2,h3,fun k hk=>(h4 k hk).mono hz⟩
 | loop st pd G N ps asg body=>obtain ⟨T,h1,h2,h3⟩:=h;exact ⟨T,hh.trans h1,h2,h3.purge hz hj⟩
 | acc n sz f t=>obtain ⟨vs,g,h1,h2,h3,h4⟩:=h;exact ⟨vs,g,hc.trans h1,h2,h3,fun k hk=>(h4 k hk).mono hz⟩
 | mapI f=>obtain ⟨l,h1,h2⟩:=h;exact ⟨l,hh.trans h1,h2⟩
 | hdr n p xs t =>
  obtain ⟨vs,h1,h2,h3,h4⟩:=h
  refine ⟨vs,hc.trans h1,h2,h3,fun k hk=>?_⟩
  obtain ⟨v,h5,h6⟩:=h4 k hk
  refine ⟨v,h5,?_⟩
  rw [zaR];exact z2u hz hj h6
 | oarr w n sz f t=>obtain ⟨vs,g,h1,h2,h3,h4⟩:=h;exact ⟨vs,g,hc.trans h1,h2,h3,fun k hk=>(h4 k hk).mono hz⟩
 | mapA m p xs =>
  obtain ⟨l,h1,h2,h3⟩:=h
  refine ⟨l,hh.trans h1,h2,fun k=>?_⟩
  obtain ⟨h4,h5⟩:=h3 k
  rw [zch,zaR]
  exact ⟨h4,fun v hv=>z2u hz hj (h5 v hv)⟩
 | itr o=>exact hh.trans h
theorem z9u {b:Nat} {vb:VB} (h:vb.void):(zeH b vb).void:=by cases vb <;> exact h
theorem SR.giveUp {b b':Nat} {S1:St} (hS:SR E S Z j L) (hj:j b=some b') (hsz:S1.size=S.size) (hh:∀ c,c≠b'→S1.heap.get c=S.heap.get c):SR E S1 Z (jrm j b) (z3J b (rm L b))∧ZLe E S Z S1 Z:=by
 have hz:ZLe E S Z S1 Z:=fun c hc=>⟨hc,by unfold rdc St.cells;rw [hh c (fun e=>by subst e;exact (hS.jlt _ _ hj).2 hc)]⟩
 refine ⟨⟨fun c hc=>by rw [hsz];exact hS.zlt c hc,fun i c hi=>?_,fun i i' c hi hi'=>?_,fun i hi=>?_,fun i vb hi=>?_,fun c q hc=>⟨by rw [hsz];exact (hS.rom c q hc).1,fun i hi=>by
  unfold jrm at hi
  split at hi
  ·cases hi
  ·exact (hS.rom c q hc).2 i hi⟩⟩,hz⟩
 ·unfold jrm at hi
  split at hi
  ·cases hi
  ·rw [hsz];exact hS.jlt i c hi
 ·unfold jrm at hi hi'
  split at hi
  ·cases hi
  ·split at hi'
   ·cases hi'
   ·exact hS.inj i i' c hi hi'
 ·have:=z2T hi
  rw [zb8] at this
  unfold jrm
  split at this
  ·rename_i e;rw [if_pos e]
  ·rename_i e;rw [if_neg e];exact hS.dom i this
 ·obtain ⟨w,h1,rfl⟩:=z5W hi
  rw [zb8] at h1
  split at h1
  ·cases h1
  ·rename_i e
   rcases hS.blk' i w h1 with hv | ⟨c,h2,h3⟩
   ·exact .inl (z9u hv)
   refine .inr ⟨c,z1l i c e h2,h3.purge ?_ hz z1l⟩
   exact hh c (fun e2=>by subst e2;exact e (hS.inj _ _ _ h2 hj))
theorem SR.giveUp0 {b:Nat} (hS:SR E S Z j L):SR E S Z (jrm j b) (z3J b (rm L b)):=by
 have hz:ZLe E S Z S Z:=fun c hc=>⟨hc,rfl⟩
 refine ⟨fun c hc=>hS.zlt c hc,fun i c hi=>?_,fun i i' c hi hi'=>?_,fun i hi=>?_,fun i vb hi=>?_,fun c q hc=>⟨(hS.rom c q hc).1,fun i hi=>by
  unfold jrm at hi
  split at hi
  ·cases hi
  ·exact (hS.rom c q hc).2 i hi⟩⟩
 ·unfold jrm at hi
  split at hi
  ·cases hi
  ·exact hS.jlt i c hi
 ·unfold jrm at hi hi'
  split at hi
  ·cases hi
  ·split at hi'
   ·cases hi'
   ·exact hS.inj i i' c hi hi'
 ·have:=z2T hi
  rw [zb8] at this
  unfold jrm
  split at this
  ·rename_i e;rw [if_pos e]
  ·rename_i e;rw [if_neg e];exact hS.dom i this
 ·obtain ⟨w,h1,rfl⟩:=z5W hi
  rw [zb8] at h1
  split at h1
  ·cases h1
  ·rename_i e
   rcases hS.blk' i w h1 with hv | ⟨c,h2,h3⟩
   ·exact .inl (z9u hv)
   exact .inr ⟨c,z1l i c e h2,h3.purge rfl hz z1l⟩
theorem Ex.giveUp0 {b:Nat}:Ex S Z j S Z (jrm j b):=by
 refine ⟨ym _,fun c _ hn=>rfl,fun c h=>h,fun c h=>.inl h,fun i c hi=>?_,ym _,fun m h1 _ h3=>h1⟩
 unfold jrm at hi
 split at hi
 ·cases hi
 ·exact .inr ⟨i,hi⟩
theorem zjK {nb:Bool} {i sz n b:Nat} (hn:0<n) (h:j i=some b):VR E S Z j (.acc nb i sz n) (.slice (some ⟨b,0,some 0⟩) n n):=by
 cases n with
 | zero=>omega
 | succ n=>exact .accC h
theorem Ex.giveUp {b b':Nat} {S1:St} (hj:j b=some b') (hsz:S1.size=S.size) (hh:∀ c,c≠b'→S1.heap.get c=S.heap.get c) (hl:S1.low=S.low∨S1.low=Nat.min b' S.low):Ex S Z j S1 Z (jrm j b):=by
 refine ⟨Nat.le_of_eq hsz.symm,fun c _ hn=>hh c (fun e=>by subst e;exact hn b hj),fun c h=>h,fun c h=>.inl h,fun i c hi=>?_,?_,fun m h1 _ h3=>?_⟩
 ·unfold jrm at hi
  split at hi
  ·cases hi
  ·exact .inr ⟨i,hi⟩
 ·rcases hl with h | h
  ·rw [h];exact ym _
  ·rw [h];exact Nat.min_le_right _ _
 ·rcases hl with h | h
  ·rw [h];exact h1
  ·rw [h];exact Nat.le_min.2 ⟨h3 b b' hj,h1⟩
theorem z6L (L:VS) (b:Nat):bk (z3J b (rm L b)) (nx L)=none:=by
 cases h:bk (z3J b (rm L b)) (nx L) with
 | none=>rfl
 | some v =>
  obtain ⟨w,h1,_⟩:=z5W h
  rw [zb8] at h1
  split at h1
  ·cases h1
  ·rw [zpR] at h1;cases h1
theorem zfJ {c:Call} {t u:Nat} {s x:AV} {z:Bool} {out:VOut} (hT:zM E tb=true) (hc:c.callee = .builtin .append) (ht:c.argTypes.toList=[t,u]) (ha:avs F c.args.toList=some [s,x]) (h:zd5 tb F L (nx L) z t u s x=some out) (ho:∀ P∈out.ob,P) (hS:SR E S Z j L) (hF:FRR E S Z j F T):z6P E T S Z j (.call c) out:=by
 obtain ⟨vs,k1,k2⟩:=hF.evs ha
 cases k2 with
 | cons hs k2=>cases k2 with
  | cons hx k2 =>
   cases k2
   rename_i sv xv
   unfold zd5 at h
   split at h
   ·rename_i sz ag elem esz zs sz2 ag2 e2 esz2 zs2 ty nb k f hi0 hi1
    obtain ⟨i,hti⟩:=zN hT hi0
    obtain ⟨ui,htu⟩:=zN hT hi1
    obtain ⟨hgs,e,he⟩:=z0t hti.d
    have hgu:=(z0t htu.d).1
    have hep:0<esz:=by rw [←he.size];exact he.pos
    have ev:∀ new,z2R xv=some k→z0E E esz k xv S=some new→∀ cF dF,zR E cF dF T S (.call c)=z2a E e elem sv new k S:=by
     intro new h1 h2 cF dF
     show ob (T.evs c.args.toList) _=_
     rw [k1,hc,ht]
     show ob (E.ti.get t) _=_
     rw [hti.get]
     show ob (E.ti.get u) _=_
     rw [htu.get]
     show ob (z2H i.desc) _=_
     rw [hgs]
     show ob (E.ti.get elem) _=_
     rw [he.get]
     show bf (z8G ui.desc) _ _=_
     rw [hgu]
     show ob (z2R xv) _=_
     rw [h1]
     show ob (z0E E e.size k xv S) _=_
     rw [he.size,h2];rfl
    cases z with
    | true =>
     cases hsl:zqT s with
     | false=>rw [hsl] at h;cases h
     | true =>
     rw [hsl] at h
     cases h
     have h0:=ho (k=0) (by simp)
     subst h0
     cases hx with
     | p hx =>
      obtain ⟨new,g,h1,h2,h3,_⟩:=z2x hx hep (fun i hi=>absurd hi (Nat.not_lt_zero i))
      refine ⟨sv,S,Z,j,fun cF dF=>?_,hS,hF,hs,Ex.refl _ _ _,fun h=>h,fun _=>rfl,fun h=>(by cases h),fun i b h0 h1=>(by rw [h0] at h1;cases h1),fun i b _ h=>h⟩
      rw [ev new h1 h2]
      have:∃ q,z1F sv=some q:=by
       unfold zqT at hsl
       split at hsl
       ·cases hs with | p hs=>cases hs <;> exact ⟨_,rfl⟩
       ·cases hs with | p hs=>cases hs;exact ⟨_,rfl⟩
       ·cases hs;exact ⟨_,rfl⟩
       ·cases hs <;> exact ⟨_,rfl⟩
       ·cases hsl
      obtain ⟨q,hq⟩:=this
      show ob (z1F sv) _=_
      rw [hq];rfl
    | false =>
     simp only [cond_false] at h
     have ev2:∀ (q:Option Addr×Nat×Nat) (new:List Value),z1F sv=some q→0<k→q.2.1+k≤1048576→new.length=k*esz→new.all scalar=true →
       z2a E e elem sv new k S=Option.rec (gd (Nat.beq q.2.1 0&&Nat.beq q.2.2 0) (some (.slice (some ⟨S.size,0,some 0⟩) k k,S.new (.cells new elem)))) (fun a=>z0W E e elem a q.2.1 q.2.2 new k S) q.1:=by
      intro q new h1 h2 h3 h4 h5
      show ob (z1F sv) _=_
      rw [h1]
      show bf (Nat.beq k 0) _ (gd (Nat.ble (Nat.add q.2.1 k) 1048576&&(Nat.ble e.bytes 4096&&(Nat.blt 0 e.size&&(new.all scalar&&(Nat.beq e.zero.cells.size e.size&&Nat.beq new.length (k*e.size)))))) _)=_
      rw [z0B (by omega),show Nat.ble (Nat.add q.2.1 k) 1048576=true from z3m h3,he.bytes,h5,he.zero,h4,he.size,Nat.beq_refl,show Nat.blt 0 esz=true by simpa using hep];rfl
     split at h
     ·-- to nil
      cases h
      have o1:=ho (0<k) (by simp)
      have o2:=ho (k≤1048576) (by simp)
      have o3:=ho (∀ i,i<k→(f i).length=esz) (by simp)
      cases hx with
      | p hx =>
       obtain ⟨new,g,h1,h2,h3,h4,h5,h6⟩:=z2x hx hep o3
       cases hs with
       | p hs=>cases hs with
        | nil =>
         refine ⟨.slice (some ⟨S.size,0,some 0⟩) k k,S.new (.cells new elem),Z,ext j (nx L) S.size,fun cF dF=>?_,hS.new ⟨new,g,z0c,h3,h5,fun i hi=>(h6 i hi).mono (z0d hS _)⟩,hF.new hS _,?_,Ex.new hS _,fun h=>Nat.le_succ_of_le h,fun _=>rfl,fun h=>(by cases h),fun i b h0 h1=>z2A h0 h1,fun i b _ h=>hS.ext_le _ i b h⟩
         ·rw [ev new h1 h2,ev2 (none,0,0) new rfl o1 (by simpa using o2) h3 h4];rfl
         ·have:=VR.sl (E:=E) (S:=S.new (.cells new elem)) (Z:=Z) (sz:=esz) (off:=0) (n:=k) (cap:=k) (ex:=0) (z0m j (nx L) S.size)
          rw [Nat.zero_mul] at this
          exact this
     ·-- to an empty one
      cases h
      have o1:=ho (0<k) (by simp)
      have o2:=ho (k≤1048576) (by simp)
      have o3:=ho (∀ i,i<k→(f i).length=esz) (by simp)
      cases hx with
      | p hx =>
       obtain ⟨new,g,h1,h2,h3,h4,h5,h6⟩:=z2x hx hep o3
       cases hs with
       | p hs=>cases hs with
        | emp hz hcc hoo =>
         rename_i b o cs t'
         refine ⟨.slice (some ⟨S.size,0,some 0⟩) k k,S.new (.cells new elem),Z,ext j (nx L) S.size,fun cF dF=>?_,hS.new ⟨new,g,z0c,h3,h5,fun i hi=>(h6 i hi).mono (z0d hS _)⟩,hF.new hS _,?_,Ex.new hS _,fun h=>Nat.le_succ_of_le h,fun _=>rfl,fun h=>(by cases h),fun i b h0 h1=>z2A h0 h1,fun i b _ h=>hS.ext_le _ i b h⟩
         ·rw [ev new h1 h2,ev2 (some ⟨b,o,none⟩,0,0) new rfl o1 (by simpa using o2) h3 h4]
          show z0W E e elem ⟨b,o,none⟩ 0 0 new k S=_
          unfold z0W
          show ob (rdc E S b) _=_
          rw [hcc]
          show bf (Nat.ble (Nat.add 0 k) 0) _ (ob (cut cs o (0*e.size)) _)=_
          rw [show Nat.ble (Nat.add 0 k) 0=false by
           cases hb:Nat.ble (Nat.add 0 k) 0 with
           | false=>rfl
           | true=>have h9:0+k≤0:=zF hb;omega,Nat.zero_mul,z0D (by omega)]
          show some (Value.slice (some ⟨S.size,0,some 0⟩) (Nat.add 0 k) (Nat.add 0 k),S.new (.cells ((cs.drop o).take 0++new) elem))=_
          rw [List.take_zero,List.nil_append,show Nat.add 0 k=k from Nat.zero_add k]
         ·have:=VR.sl (E:=E) (S:=S.new (.cells new elem)) (Z:=Z) (sz:=esz) (off:=0) (n:=k) (cap:=k) (ex:=0) (z0m j (nx L) S.size)
          rw [Nat.zero_mul] at this
          exact this
     ·rename_i b sz off n cp ex
      split at h
      ·rename_i m sz' g0 t' hbk
       cases hs with
       | sl hj =>
        rename_i b'
        obtain ⟨b2,e1,cs,gg,h7,h8,h9,h10⟩:=hS.blk _ _ hbk id
        rw [hj] at e1;cases e1
        cases hex:Nat.beq ex 1 with
        | true =>
         rw [hex] at h
         cases h
         have o1:=ho (0<k) (by simp)
         have o2:=ho (n+k≤1048576) (by simp)
         have o3:=ho (∀ i,i<k→(f i).length=esz) (by simp)
         have o4:=ho (sz=esz) (by simp)
         have o5:=ho (sz'=esz) (by simp)
         have o6:=ho (n+k≤cp) (by simp)
         have o7:=ho (off+n+k≤m) (by simp)
         obtain rfl:=zm hex
         subst o4
         subst o5
         cases hx with
         | p hx =>
          obtain ⟨new,g,h1,h2,h3,h4,h5,h6⟩:=z2x hx hep o3
          have hin:(off+n)*sz'+new.length≤cs.length:=by
           rw [h3,h8,←Nat.add_mul]
           exact Nat.mul_le_mul_right _ o7
          refine ⟨.slice (some ⟨b',off*sz',none⟩) (n+k) cp,S.put b' (.cells _ t'),Z,j,fun cF dF=>?_,hS.put hbk hj ⟨cs.take ((off+n)*sz')++new++cs.drop ((off+n)*sz'+new.length),fun i=>if off+n≤i∧i<off+n+k then g (i - (off+n)) else gg i,z3k,?_,fun i hi=>?_,fun i hi=>?_⟩,hF.mono' (z07 hS hj _) (fun _ _ h=>h),.sl hj,Ex.put hS hj _,fun h=>yn (Nat.min_le_right _ _) h,fun h=>(by cases h),fun _=>⟨b',hj,?_,_,rfl⟩,fun i b h0 h1=>(by rw [h0] at h1;cases h1),fun i b _ h=>h⟩
          ·rw [ev new h1 h2,ev2 (some ⟨b',off*sz',none⟩,n,cp) new rfl o1 o2 h3 h4]
           show z0W E e elem ⟨b',off*sz',none⟩ n cp new k S=_
           unfold z0W
           rw [hS.rda hj h7]
           show bf (Nat.ble (Nat.add n k) cp) (ob (S.cells b') _) _=_
           rw [show Nat.ble (Nat.add n k) cp=true from z3m o6,h7]
           show ob (paste cs (off*sz'+n*e.size) new) _=_
           rw [he.size,←Nat.add_mul,z4q hin];rfl
          ·rw [←h8];simp only [List.length_append,List.length_take,List.length_drop];omega
          ·show cut _ _ _=some (if off+n≤i∧i<off+n+k then g (i - (off+n)) else gg i)
           by_cases hc1:off+n≤i∧i<off+n+k
           ·rw [if_pos hc1,z7h hin (Nat.mul_le_mul_right _ hc1.1) (by rw [h3,←Nat.add_mul];exact z1v hc1.2),←Nat.sub_mul]
            have:=h5 (i - (off+n)) (by omega)
            rw [z0D (z3F this)] at this
            exact this
           ·rw [if_neg hc1,z2N hin ?_]
            ·exact h9 i hi
            ·rw [h3,←Nat.add_mul]
             by_cases hc2:off+n≤i
             ·right;exact Nat.mul_le_mul_right _ (by omega)
             ·left;exact z1v (by omega)
          ·show PRs E _ _ (bif Nat.ble (off+n) i&&Nat.blt i (off+n+k) then f (i - (off+n)) else g0 i) (if off+n≤i∧i<off+n+k then g (i - (off+n)) else gg i)
           by_cases hc1:off+n≤i∧i<off+n+k
           ·rw [if_pos hc1,z3m hc1.1,show Nat.blt i (off+n+k)=true by simpa using hc1.2]
            exact (h6 _ (by omega)).mono (z07 hS hj _)
           ·rw [if_neg hc1,show (Nat.ble (off+n) i&&Nat.blt i (off+n+k))=false by
             cases hb:(Nat.ble (off+n) i&&Nat.blt i (off+n+k)) with
             | false=>rfl
             | true =>
              simp only [yw] at hb
              exact absurd ⟨zF hb.1,z0w hb.2⟩ hc1]
            exact (h10 i hi).mono (z07 hS hj _)
          ·show z0Z T c=_
           unfold z0Z
           rw [hc,k1]
           cases hx <;> rfl
        | false =>
         rw [hex] at h
         cases hte:Nat.beq t' elem with
         | false=>rw [hte] at h;cases h
         | true =>
          rw [hte] at h
          cases h
          have o1:=ho (0<k) (by simp)
          have o2:=ho (n+k≤1048576) (by simp)
          have o3:=ho (∀ i,i<k→(f i).length=esz) (by simp)
          have o4:=ho (sz=esz) (by simp)
          have o5:=ho (sz'=esz) (by simp)
          have o6:=ho (cp<n+k) (by simp)
          have o7:=ho (off+n≤m) (by simp)
          obtain rfl:=zm hte
          subst o4
          subst o5
          cases hx with
          | p hx =>
           obtain ⟨new,g,h1,h2,h3,h4,h5,h6⟩:=z2x hx hep o3
           have hin:off*sz'+n*sz'≤cs.length:=by
            rw [h8,←Nat.add_mul];exact Nat.mul_le_mul_right _ o7
           have hold:=z0D hin
           generalize hS1:S.spent ⟨b',off*sz',bif Nat.beq ex 0 then some 0 else none⟩=S1
           have f1:S1.size=S.size∧(∀ c,c≠b'→S1.heap.get c=S.heap.get c)∧(S1.low=S.low∨S1.low=Nat.min b' S.low):=by
            subst hS1
            cases Nat.beq ex 0 with
            | true=>exact ⟨rfl,fun c hc=>by show (S.put b' .dead).heap.get c=_;rw [get_put,if_neg hc],.inr rfl⟩
            | false=>exact ⟨rfl,fun c hc=>rfl,.inl rfl⟩
           obtain ⟨f1,f2,f3⟩:=f1
           obtain ⟨f4,f5⟩:=hS.giveUp (S1:=S1) hj f1 f2
           have f6:=Ex.giveUp (Z:=Z) hj f1 f2 f3
           have f7:∀ (Q:List Value),∀ i b'',jrm j b i=some b''→ext (jrm j b) (nx L) S1.size i=some b'':=fun _ i b'' hi=>by
            unfold ext
            by_cases e:i=nx L
            ·subst e;rw [f4.dom _ (z6L L b)] at hi;cases hi
            ·rw [if_neg e];exact hi
           have f8:Ex S1 Z (jrm j b) (S1.new (.cells ((cs.drop (off*sz')).take (n*sz')++new) t')) Z (ext (jrm j b) (nx L) S1.size):=by
            refine ⟨Nat.le_succ _,fun b hb _=>by rw [z0j,if_neg (by omega)],fun b h=>h,fun b h=>.inl h,fun i b hi=>?_,ym _,fun m h _ _=>h⟩
            unfold ext at hi
            split at hi
            ·cases hi;exact .inl (ym _)
            ·exact .inr ⟨i,hi⟩
           have f9:=z0d f4 (.cells ((cs.drop (off*sz')).take (n*sz')++new) t')
           have f10:ZLe E S Z (S1.new (.cells ((cs.drop (off*sz')).take (n*sz')++new) t')) Z:=fun c hc=>⟨hc,(f9 c hc).2.trans (f5 c hc).2⟩
           have hol:((cs.drop (off*sz')).take (n*sz')).length=n*sz':=z1Z hold
           refine ⟨.slice (some ⟨S1.size,0,some 0⟩) (n+k) (n+k),_,Z,ext (jrm j b) (nx L) S1.size,fun cF dF=>?_,SR.newAt (z6L L b) f4 ⟨_,fun i=>if i<n then gg (off+i) else g (i - n),z0c,?_,fun i hi=>?_,fun i hi=>?_⟩,hF.purge f10 (fun i b'' hne hi=>f7 [] i b'' (z1l i b'' hne hi)),?_,f6.trans f8,fun h=>Nat.le_succ_of_le (yn f6.low.1 (by rw [f1];exact h)),fun h=>(by cases h),fun h=>(by cases h),fun i b h0 h1=>f1 ▸ zaV h0 h1,fun i b'' hne hi=>f7 [] i b'' (z1l i b'' (hne rfl) hi)⟩
           ·rw [ev new h1 h2,ev2 (some ⟨b',off*sz',bif Nat.beq ex 0 then some 0 else none⟩,n,cp) new rfl o1 o2 h3 h4]
            show z0W E e t' ⟨b',off*sz',bif Nat.beq ex 0 then some 0 else none⟩ n cp new k S=_
            unfold z0W
            rw [hS.rda hj h7]
            show gd (Option.rec true (fun _=>Nat.beq t' t') (bif Nat.beq ex 0 then some 0 else none)) (bf (Nat.ble (Nat.add n k) cp) _ (ob (cut cs (off*sz') (n*e.size)) fun old=>some (Value.slice (some ⟨S.size,0,some 0⟩) (Nat.add n k) (Nat.add n k),(S.spent ⟨b',off*sz',bif Nat.beq ex 0 then some 0 else none⟩).new (.cells (old++new) t'))))=_
            rw [show (Option.rec true (fun _=>Nat.beq t' t') (bif Nat.beq ex 0 then some 0 else none):Bool)=true by
             cases Nat.beq ex 0 with
             | true=>exact Nat.beq_refl _
             | false=>rfl,show Nat.ble (Nat.add n k) cp=false by
             cases hb:Nat.ble (Nat.add n k) cp with
             | false=>rfl
             | true =>
                  have:n+k≤cp:=zF hb
                  omega,he.size,hold,hS1,f1]
            rfl
           ·rw [List.length_append,hol,h3,Nat.add_mul]
           ·show cut _ _ _=some (if i<n then gg (off+i) else g (i - n))
            by_cases hi2:i<n
            ·rw [if_pos hi2]
             refine z1X ?_
             have q1:=h9 (off+i) (by omega)
             have q2:=z96 hold (a:=i*sz') (m:=sz') (z1v hi2)
             rw [←Nat.add_mul,q1] at q2
             rw [z0D (by rw [hol];exact z1v hi2)]
             exact q2.symm
            ·rw [if_neg hi2]
             have q1:=z1z (a:=(cs.drop (off*sz')).take (n*sz')) (h5 (i - n) (by omega))
             rw [hol,←Nat.add_mul,show n+(i - n)=i by omega] at q1
             exact q1
           ·show PRs E _ _ (bif Nat.blt i n then g0 (off+i) else f (i - n)) (if i<n then gg (off+i) else g (i - n))
            by_cases hi2:i<n
            ·rw [if_pos hi2,show Nat.blt i n=true by simpa using hi2]
             exact (h10 _ (by omega)).mono f10
            ·rw [if_neg hi2,show Nat.blt i n=false by
              cases hb:Nat.blt i n with
              | false=>rfl
              | true=>exact absurd (z0w hb) hi2]
             exact (h6 _ (by omega)).mono f10
           ·have:=VR.sl (E:=E) (S:=S1.new (.cells ((cs.drop (off*sz')).take (n*sz')++new) t')) (Z:=Z) (sz:=sz') (off:=0) (n:=n+k) (cap:=n+k) (ex:=0) (z0m (jrm j b) (nx L) S1.size)
            rw [Nat.zero_mul] at this
            exact this
      ·cases h
     ·rename_i nb b sz n
      split at h
      ·rename_i m sz' g0 t' hbk
       cases hte:Nat.beq t' elem with
       | false=>rw [hte] at h;cases h
       | true =>
        rw [hte] at h
        cases h
        have o1:=ho (0<k) (by simp)
        have o2:=ho (n+k≤1048576) (by simp)
        have o3:=ho (∀ i,i<k→(f i).length=esz) (by simp)
        have o4:=ho (sz=esz) (by simp)
        have o5:=ho (sz'=esz) (by simp)
        have o6:=ho (n=m) (by simp)
        obtain rfl:=zm hte
        subst o4
        subst o5
        subst o6
        have empty:n=0→(∀ new,new.length=k*sz'→new.all scalar=true→z2R xv=some k→z0E E sz' k xv S=some new→∀ cF dF,zR E cF dF T S (.call c)=some (.slice (some ⟨S.size,0,some 0⟩) k k,S.new (.cells new t')))→z6P E T S Z j (.call c) ⟨[0<k,n+k≤1048576,∀ i,i<k→(f i).length=sz',sz'=sz',sz'=sz',n=n],z6V b F,.acc true (nx L) sz' (n+k),(nx L,.acc (n+k) sz' (fun i=>bif Nat.blt i n then g0 i else f (i - n)) t')::z3J b (rm L b),2,b⟩:=by
         intro hn hev
         subst hn
         have f4:=hS.giveUp0 (b:=b)
         cases hx with
         | p hx =>
          obtain ⟨new,g,h1,h2,h3,h4,h5,h6⟩:=z2x hx hep o3
          have f9:=z0d f4 (.cells new t')
          have f7:∀ i b'',jrm j b i=some b''→ext (jrm j b) (nx L) S.size i=some b'':=fun i b'' hi=>by
           unfold ext
           by_cases e:i=nx L
           ·subst e;rw [f4.dom _ (z6L L b)] at hi;cases hi
           ·rw [if_neg e];exact hi
          have f8:Ex S Z (jrm j b) (S.new (.cells new t')) Z (ext (jrm j b) (nx L) S.size):=by
           refine ⟨Nat.le_succ _,fun b hb _=>by rw [z0j,if_neg (by omega)],fun b h=>h,fun b h=>.inl h,fun i b hi=>?_,ym _,fun m h _ _=>h⟩
           unfold ext at hi
           split at hi
           ·cases hi;exact .inl (ym _)
           ·exact .inr ⟨i,hi⟩
          have hg0:∀ i,(bif Nat.blt i 0 then g0 i else f (i - 0))=f i:=fun i=>by
           rw [show Nat.blt i 0=false by
            cases hb:Nat.blt i 0 with
            | false=>rfl
            | true=>exact absurd (z0w hb) (Nat.not_lt_zero i)];rfl
          refine ⟨.slice (some ⟨S.size,0,some 0⟩) k k,_,Z,ext (jrm j b) (nx L) S.size,hev new h3 h4 h1 h2,SR.newAt (z6L L b) f4 ⟨new,g,z0c,by rw [Nat.zero_add];exact h3,fun i hi=>h5 i (by omega),fun i hi=>?_⟩,hF.purge f9 (fun i b'' hne hi=>f7 i b'' (z1l i b'' hne hi)),?_,Ex.giveUp0.trans f8,fun h=>Nat.le_succ_of_le h,fun h=>(by cases h),fun h=>(by cases h),fun i b h0 h1=>zaV h0 h1,fun i b'' hne hi=>f7 i b'' (z1l i b'' (hne rfl) hi)⟩
          ·show PRs E _ _ (bif Nat.blt i 0 then g0 i else f (i - 0)) (g i)
           rw [hg0]
           exact (h6 i (by omega)).mono f9
          ·show VR E _ _ _ (.acc true (nx L) sz' (0+k)) _
           rw [Nat.zero_add]
           exact zjK o1 (z0m _ _ _)
        cases hs with
        | accN =>
         refine empty rfl fun new h3 h4 h1 h2 cF dF=>?_
         rw [ev new h1 h2,ev2 (none,0,0) new rfl o1 (by simpa using o2) h3 h4];rfl
        | accE hz hcc hoo =>
         rename_i b o cs tt
         refine empty rfl fun new h3 h4 h1 h2 cF dF=>?_
         rw [ev new h1 h2,ev2 (some ⟨b,o,none⟩,0,0) new rfl o1 (by simpa using o2) h3 h4]
         show z0W E e t' ⟨b,o,none⟩ 0 0 new k S=_
         unfold z0W
         show ob (rdc E S b) _=_
         rw [hcc]
         show bf (Nat.ble (Nat.add 0 k) 0) _ (ob (cut cs o (0*e.size)) _)=_
         rw [show Nat.ble (Nat.add 0 k) 0=false by
          cases hb:Nat.ble (Nat.add 0 k) 0 with
          | false=>rfl
          | true=>have h9:0+k≤0:=zF hb;omega,Nat.zero_mul,z0D (by omega)]
         show some (Value.slice (some ⟨S.size,0,some 0⟩) (Nat.add 0 k) (Nat.add 0 k),S.new (.cells ((cs.drop o).take 0++new) t'))=_
         rw [List.take_zero,List.nil_append,show Nat.add 0 k=k from Nat.zero_add k]
        | accC hj =>
         rename_i n0 b'
         obtain ⟨b2,e1,cs,gg,h7,h8,h9,h10⟩:=hS.blk _ _ hbk (fun h0=>by have h0:n0+1=0:=h0;omega)
         rw [hj] at e1;cases e1
         generalize hn:n0+1=n at *
         cases hx with
         | p hx =>
          obtain ⟨new,g,h1,h2,h3,h4,h5,h6⟩:=z2x hx hep o3
          have hin:0+n*sz'≤cs.length:=by
           rw [h8,Nat.zero_add];exact ym _
          have hold:=z0D hin
          generalize hS1:S.spent ⟨b',0,some 0⟩=S1
          have f1:S1.size=S.size∧(∀ c,c≠b'→S1.heap.get c=S.heap.get c)∧(S1.low=S.low∨S1.low=Nat.min b' S.low):=by
           subst hS1
           exact ⟨rfl,fun c hc=>by show (S.put b' .dead).heap.get c=_;rw [get_put,if_neg hc],.inr rfl⟩
          obtain ⟨f1,f2,f3⟩:=f1
          obtain ⟨f4,f5⟩:=hS.giveUp (S1:=S1) hj f1 f2
          have f6:=Ex.giveUp (Z:=Z) hj f1 f2 f3
          have f7:∀ (Q:List Value),∀ i b'',jrm j b i=some b''→ext (jrm j b) (nx L) S1.size i=some b'':=fun _ i b'' hi=>by
           unfold ext
           by_cases e:i=nx L
           ·subst e;rw [f4.dom _ (z6L L b)] at hi;cases hi
           ·rw [if_neg e];exact hi
          have f8:Ex S1 Z (jrm j b) (S1.new (.cells ((cs.drop (0)).take (n*sz')++new) t')) Z (ext (jrm j b) (nx L) S1.size):=by
           refine ⟨Nat.le_succ _,fun b hb _=>by rw [z0j,if_neg (by omega)],fun b h=>h,fun b h=>.inl h,fun i b hi=>?_,ym _,fun m h _ _=>h⟩
           unfold ext at hi
           split at hi
           ·cases hi;exact .inl (ym _)
           ·exact .inr ⟨i,hi⟩
          have f9:=z0d f4 (.cells ((cs.drop (0)).take (n*sz')++new) t')
          have f10:ZLe E S Z (S1.new (.cells ((cs.drop (0)).take (n*sz')++new) t')) Z:=fun c hc=>⟨hc,(f9 c hc).2.trans (f5 c hc).2⟩
          have hol:((cs.drop (0)).take (n*sz')).length=n*sz':=z1Z hold
          refine ⟨.slice (some ⟨S1.size,0,some 0⟩) (n+k) (n+k),_,Z,ext (jrm j b) (nx L) S1.size,fun cF dF=>?_,SR.newAt (z6L L b) f4 ⟨_,fun i=>if i<n then gg i else g (i - n),z0c,?_,fun i hi=>?_,fun i hi=>?_⟩,hF.purge f10 (fun i b'' hne hi=>f7 [] i b'' (z1l i b'' hne hi)),?_,f6.trans f8,fun h=>Nat.le_succ_of_le (yn f6.low.1 (by rw [f1];exact h)),fun h=>(by cases h),fun h=>(by cases h),fun i b h0 h1=>f1 ▸ zaV h0 h1,fun i b'' hne hi=>f7 [] i b'' (z1l i b'' (hne rfl) hi)⟩
          ·rw [ev new h1 h2,ev2 (some ⟨b',0,some 0⟩,n,n) new rfl o1 o2 h3 h4]
           show z0W E e t' ⟨b',0,some 0⟩ n n new k S=_
           unfold z0W
           rw [hS.rda hj h7]
           show gd (Option.rec true (fun _=>Nat.beq t' t') (some 0)) (bf (Nat.ble (Nat.add n k) n) _ (ob (cut cs (0) (n*e.size)) fun old=>some (Value.slice (some ⟨S.size,0,some 0⟩) (Nat.add n k) (Nat.add n k),(S.spent ⟨b',0,some 0⟩).new (.cells (old++new) t'))))=_
           rw [show (Option.rec true (fun _=>Nat.beq t' t') (some 0):Bool)=true by
            exact Nat.beq_refl _,show Nat.ble (Nat.add n k) n=false by
            cases hb:Nat.ble (Nat.add n k) n with
            | false=>rfl
            | true =>
                 have:n+k≤n:=zF hb
                 omega,he.size,hold,hS1,f1]
           rfl
          ·rw [List.length_append,hol,h3,Nat.add_mul]
          ·show cut _ _ _=some (if i<n then gg i else g (i - n))
           by_cases hi2:i<n
           ·rw [if_pos hi2]
            refine z1X ?_
            have q1:=h9 i hi2
            have q2:=z96 hold (a:=i*sz') (m:=sz') (z1v hi2)
            rw [Nat.zero_add,q1] at q2
            rw [z0D (by rw [hol];exact z1v hi2)]
            exact q2.symm
           ·rw [if_neg hi2]
            have q1:=z1z (a:=(cs.drop (0)).take (n*sz')) (h5 (i - n) (by omega))
            rw [hol,←Nat.add_mul,show n+(i - n)=i by omega] at q1
            exact q1
          ·show PRs E _ _ (bif Nat.blt i n then g0 i else f (i - n)) (if i<n then gg i else g (i - n))
           by_cases hi2:i<n
           ·rw [if_pos hi2,show Nat.blt i n=true by simpa using hi2]
            exact (h10 _ (by omega)).mono f10
           ·rw [if_neg hi2,show Nat.blt i n=false by
             cases hb:Nat.blt i n with
             | false=>rfl
             | true=>exact absurd (z0w hb) hi2]
            exact (h6 _ (by omega)).mono f10
          ·exact zjK (by omega) (z0m _ _ _)
      ·cases h
     ·cases h
   ·cases h
theorem SR.same {i b:Nat} {vb w:VB} (hS:SR E S Z j L) (hi:bk L i=some w) (hj:j i=some b) (hb:BR E S Z j b vb):SR E S Z j (up L i vb):=by
 refine ⟨hS.zlt,hS.jlt,hS.inj,fun k hk=>?_,fun k vb' hk=>?_,hS.rom⟩
 ·rw [z9r hi] at hk
  split at hk
  ·cases hk
  ·exact hS.dom k hk
 ·rw [z9r hi] at hk
  split at hk
  ·rename_i e;cases hk;subst e;exact .inr ⟨b,hj,hb⟩
  ·exact hS.blk' k vb' hk
theorem zh4 {c:Call} {t:Nat} {s:AV} {out:VOut} (hT:zM E tb=true) (hc:c.callee = .builtin .clear) (ht:c.argTypes.toList=[t]) (ha:avs F c.args.toList=some [s]) (h:zh5 tb F L (nx L) t s=some out) (ho:∀ P∈out.ob,P) (hS:SR E S Z j L) (hF:FRR E S Z j F T):z6P E T S Z j (.call c) out:=by
 obtain ⟨vs,k1,k2⟩:=hF.evs ha
 cases k2 with
 | cons hs k2 =>
  cases k2
  rename_i sv
  unfold zh5 at h
  split at h
  ·rename_i sz ag elem esz zs b sz1 off n cp ex hi0
   split at h
   ·rename_i ve m sz' g t' hve hbk
    cases h
    obtain ⟨i,hti⟩:=zN hT hi0
    obtain ⟨hgs,e,he⟩:=z0t hti.d
    obtain ⟨e',hte⟩:=zN hT hve
    have:e'=e:=by have:=hte.get;rw [he.get] at this;cases this;rfl
    subst this
    have o1:=ho (off+n≤m) (by simp)
    have o2:=ho (sz1=esz) (by simp)
    have o3:=ho (sz'=esz) (by simp)
    subst o2
    subst o3
    have hz:=z2f (E:=E) (S:=S) (Z:=Z) hte.zero
    cases hs with
    | sl hj =>
     rename_i b'
     obtain ⟨b2,e1,cs,gg,h7,h8,h9,h10⟩:=hS.blk _ _ hbk id
     rw [hj] at e1;cases e1
     have ev:∀ cF dF,zR E cF dF T S (.call c)=bf (Nat.beq n 0) (some (.tuple #[],S)) (ob (S.cells b') fun c=>gd (e'.zero.cells.toList.all scalar) (ob (paste c.1 (off*sz') (zeros e'.zero.cells.toList n)) fun c'=>some (.tuple #[],S.put b' (.cells c' c.2)))):=by
      intro cF dF
      show ob (T.evs c.args.toList) _=_
      rw [k1,hc,ht]
      show ob (E.ti.get t) _=_
      rw [hti.get]
      show ob (z2H i.desc) _=_
      rw [hgs]
      show bf (Nat.beq n 0) _ (ob (E.ti.get elem) _)=_
      rw [he.get];rfl
     by_cases hn:n=0
     ·subst hn
      refine ⟨.tuple #[],S,Z,j,fun cF dF=>by rw [ev];rfl,hS.same hbk hj ⟨cs,gg,h7,h8,h9,fun k hk=>?_⟩,hF,.tup .nil,Ex.refl _ _ _,fun h=>h,fun h=>(by cases h),fun h=>(by cases h),fun i b h0 h1=>(by rw [h0] at h1;cases h1),fun i b _ h=>h⟩
      show PRs E S Z (bif Nat.ble off k&&Nat.blt k (off+0) then _ else g k) (gg k)
      rw [show (Nat.ble off k&&Nat.blt k (off+0))=false by
       cases hb:(Nat.ble off k&&Nat.blt k (off+0)) with
       | false=>rfl
       | true =>
        simp only [yw] at hb
        have h1:=zF hb.1;have h2:=z0w hb.2;omega]
      exact h10 k hk
     ·have hzl:(zeros e'.zero.cells.toList n).length=n*sz':=by rw [z1Q,z3n he]
      have hin:off*sz'+(zeros e'.zero.cells.toList n).length≤cs.length:=by
       rw [hzl,h8,←Nat.add_mul];exact Nat.mul_le_mul_right _ o1
      refine ⟨.tuple #[],S.put b' (.cells (cs.take (off*sz')++zeros e'.zero.cells.toList n++cs.drop (off*sz'+(zeros e'.zero.cells.toList n).length)) t'),Z,j,fun cF dF=>?_,hS.put hbk hj ⟨_,fun i=>if off≤i∧i<off+n then e'.zero.cells.toList else gg i,z3k,?_,fun i hi=>?_,fun i hi=>?_⟩,hF.mono' (z07 hS hj _) (fun _ _ h=>h),.tup .nil,Ex.put hS hj _,fun h=>yn (Nat.min_le_right _ _) h,fun h=>(by cases h),fun h=>(by cases h),fun i b h0 h1=>(by rw [h0] at h1;cases h1),fun i b _ h=>h⟩
      ·rw [ev,show Nat.beq n 0=false from z0B hn,h7]
       show gd (e'.zero.cells.toList.all scalar) _=_
       rw [hz.scalars]
       show ob (paste cs (off*sz') _) _=_
       rw [z4q hin];rfl
      ·rw [←h8];simp only [List.length_append,List.length_take,List.length_drop];omega
      ·show cut _ _ _=some (if off≤i∧i<off+n then _ else gg i)
       by_cases hc1:off≤i∧i<off+n
       ·rw [if_pos hc1,z7h hin (Nat.mul_le_mul_right _ hc1.1) (by rw [hzl,←Nat.add_mul];exact z1v hc1.2),←Nat.sub_mul]
        have:=z5V e'.zero.cells.toList n (i - off) (by omega)
        rw [z3n he] at this
        rw [z0D (z3F this)] at this
        exact this
       ·rw [if_neg hc1,z2N hin ?_]
        ·exact h9 i hi
        ·rw [hzl,←Nat.add_mul]
         by_cases hc2:off≤i
         ·right;exact Nat.mul_le_mul_right _ (by omega)
         ·left;exact z1v (by omega)
      ·show PRs E _ _ (bif Nat.ble off i&&Nat.blt i (off+n) then _ else g i) (if off≤i∧i<off+n then _ else gg i)
       by_cases hc1:off≤i∧i<off+n
       ·rw [if_pos hc1,z3m hc1.1,show Nat.blt i (off+n)=true by simpa using hc1.2]
        exact hz.mono (z07 hS hj _)
       ·rw [if_neg hc1,show (Nat.ble off i&&Nat.blt i (off+n))=false by
         cases hb:(Nat.ble off i&&Nat.blt i (off+n)) with
         | false=>rfl
         | true =>
          simp only [yw] at hb
          exact absurd ⟨zF hb.1,z0w hb.2⟩ hc1]
        exact (h10 i hi).mono (z07 hS hj _)
   ·cases h
  ·cases h
theorem zd2 {t:Nat} {out:VOut} (h:z7z tb F L (nx L) t=some out) (hS:SR E S Z j L) (hF:FRR E S Z j F T):z6P E T S Z j (.makeMap t none) out:=by
 unfold z7z at h
 split at h
 ·cases h
  refine ⟨.map (some S.size),S.new (.map []),Z,ext j (nx L) S.size,fun cF dF=>rfl,hS.new ⟨[],?_,fun _=>rfl⟩,hF.new hS _,.map (z0m _ _ _),Ex.new hS _,fun h=>Nat.le_succ_of_le h,fun _=>rfl,fun h=>(by cases h),fun i b h0 h1=>z2A h0 h1,fun i b _ h=>hS.ext_le _ i b h⟩
  show (S.heap.set S.size (.map [])).get S.size=_
  rw [Tr.get_set,if_pos rfl];rfl
 ·cases h
  refine ⟨.map (some S.size),S.new (.map []),Z,ext j (nx L) S.size,fun cF dF=>rfl,hS.new ⟨[],?_,⟨List.nodup_nil,fun n e=>by cases e;rfl⟩,fun k=>⟨rfl,fun v hv=>nomatch hv⟩⟩,hF.new hS _,.map (z0m _ _ _),Ex.new hS _,fun h=>Nat.le_succ_of_le h,fun _=>rfl,fun h=>(by cases h),fun i b h0 h1=>z2A h0 h1,fun i b _ h=>hS.ext_le _ i b h⟩
  show (S.heap.set S.size (.map [])).get S.size=_
  rw [Tr.get_set,if_pos rfl];rfl
 ·cases h
theorem zgU {t:Nat} {x:Operand} {a:AV} {out:VOut} (hT:zM E tb=true) (hx:av F x=some a) (h:zgV tb F L (nx L) t a=some out) (hS:SR E S Z j L) (hF:FRR E S Z j F T):z6P E T S Z j (.range t x) out:=by
 unfold zgV at h
 split at h
 ·rename_i hi0
  cases h
  obtain ⟨i,hti⟩:=zN hT hi0
  obtain ⟨kt,et,xk,xe,hd,hgk,hdk,hge,hz⟩:=z5U hti.d
  obtain ⟨v,k1,k2⟩:=hF.ev hx
  cases k2 with
  | p k2 =>
   cases k2
   refine ⟨ptr S.size 0,S.new .nilIter,Z,ext j (nx L) S.size,fun cF dF=>?_,hS.new ?_,hF.new hS _,.ref (z0m _ _ _),Ex.new hS _,fun h=>Nat.le_succ_of_le h,fun _=>rfl,fun h=>(by cases h),fun i b h0 h1=>z2A h0 h1,fun i b _ h=>hS.ext_le _ i b h⟩
   ·show ob (T.ev x) (fun v=>z6x E t v S)=_
    rw [k1]
    show ob (E.ti.get t) _=_
    rw [hti.get]
    obtain ⟨d,s1,b1,z1,p1,a1⟩:=i
    change d=_ at hd
    subst hd
    rfl
   ·show (S.heap.set S.size .nilIter).get S.size=_
    rw [Tr.get_set,if_pos rfl];rfl
 ·cases h
def zrM (l:List (Value×Value)) (n k:Nat) (v:Value):Option (Nat×Value)→List (Value×Value)
 | none=>l++[(.int .i64 (Int.ofNat k),v)]
 | some q=>l.set (q.1 - n) (.int .i64 (Int.ofNat k),v)
theorem zqz {k:Nat} {v:Value}:∀ {l:List (Nat×Value)} {n:Nat} {r:Option (Nat×Value)},z0T (.int .i64 (Int.ofNat k)) (z4Q l) n=some r→(l.map Prod.fst).Nodup →
  (∀ q,r=some q→n≤q.1)∧∃ l',zrM (z4Q l) n k v r=z4Q l'∧(l'.map Prod.fst).Nodup∧(∀ x,x∈l'.map Prod.fst ↔ x=k∨x∈l.map Prod.fst)∧(∀ q,z1A q l'=bif Nat.beq k q then some v else z1A q l)∧l'.length=bif (z1A k l).isSome then l.length else l.length+1
 | [],n,r,h,_=>by
  cases h
  exact ⟨fun q e=>(nomatch e),[(k,v)],rfl,by simp,fun x=>by simp,fun q=>rfl,rfl⟩
 | p::l,n,r,h,hn=>by
  have e:z0T (.int .i64 (Int.ofNat k)) (z4Q (p::l)) n=bf (Int.ofNat k==Int.ofNat p.1) (some (some (n,p.2))) (z0T (.int .i64 (Int.ofNat k)) (z4Q l) (n+1)):=rfl
  rw [e,zcH] at h
  obtain ⟨n1,n2⟩:=List.nodup_cons.1 (show (p.1::l.map Prod.fst).Nodup from hn)
  cases hk:Nat.beq p.1 k with
  | true =>
   rw [hk] at h
   cases h
   have hk:p.1=k:=zm hk
   refine ⟨fun q e=>by cases e;exact ym _,(k,v)::l,?_,?_,fun x=>?_,fun q=>?_,?_⟩
   ·show (z4Q (p::l)).set (n - n) _=_
    rw [Nat.sub_self];rfl
   ·show (k::l.map Prod.fst).Nodup
    rw [←hk];exact hn
   ·show x∈k::l.map Prod.fst ↔ x=k∨x∈p.1::l.map Prod.fst
    rw [hk];simp
   ·show (bif Nat.beq k q then some v else z1A q l)=bif Nat.beq k q then some v else (bif Nat.beq p.1 q then some p.2 else z1A q l)
    rw [hk]
    cases Nat.beq k q <;> rfl
   ·show l.length+1=bif (bif Nat.beq p.1 k then some p.2 else z1A k l).isSome then l.length+1 else l.length+1+1
    rw [hk,Nat.beq_refl];rfl
  | false =>
   rw [hk] at h
   obtain ⟨h0,l',h1,h2,h3,h4,h6⟩:=zqz (v:=v) (show z0T (.int .i64 (Int.ofNat k)) (z4Q l) (n+1)=some r from h) n2
   have hne:p.1≠k:=fun e=>by rw [e,Nat.beq_refl] at hk;cases hk
   refine ⟨fun q e=>Nat.le_of_succ_le (h0 q e),p::l',?_,?_,fun x=>?_,fun q=>?_,?_⟩
   ·cases r with
    | none =>
     show z4Q (p::l)++_=_
     exact congrArg ((Value.int .i64 (Int.ofNat p.1),p.2) :: ·) h1
    | some q =>
     have hq:=h0 q rfl
     show (z4Q (p::l)).set (q.1 - n) _=_
     obtain ⟨m,hm⟩:∃ m,q.1 - n=m+1:=⟨q.1 - n - 1,by omega⟩
     have hm2:q.1 - (n+1)=m:=by omega
     have h1:(z4Q l).set (q.1 - (n+1)) (.int .i64 (Int.ofNat k),v)=z4Q l':=h1
     rw [hm2] at h1
     rw [hm]
     exact congrArg ((Value.int .i64 (Int.ofNat p.1),p.2) :: ·) h1
   ·show (p.1::l'.map Prod.fst).Nodup
    refine List.nodup_cons.2 ⟨fun hm=>?_,h2⟩
    rcases (h3 p.1).1 hm with h5 | h5
    ·exact hne h5
    ·exact n1 h5
   ·show x∈p.1::l'.map Prod.fst ↔ x=k∨x∈p.1::l.map Prod.fst
    rw [List.mem_cons,List.mem_cons,h3]
    constructor
    ·rintro (h5 | h5 | h5)
     ·exact .inr (.inl h5)
     ·exact .inl h5
     ·exact .inr (.inr h5)
    ·rintro (h5 | h5 | h5)
     ·exact .inr (.inl h5)
     ·exact .inl h5
     ·exact .inr (.inr h5)
   ·show (bif Nat.beq p.1 q then some p.2 else z1A q l')=bif Nat.beq k q then some v else (bif Nat.beq p.1 q then some p.2 else z1A q l)
    rw [h4]
    cases h5:Nat.beq p.1 q with
    | false=>rfl
    | true =>
     have h5:p.1=q:=zm h5
     rw [z0B (show k≠q from fun e=>hne (h5.trans e.symm))];rfl
   ·show l'.length+1=bif (bif Nat.beq p.1 k then some p.2 else z1A k l).isSome then l.length+1 else l.length+1+1
    rw [h6,z0B hne]
    show _=bif (z1A k l).isSome then _ else _
    cases (z1A k l).isSome <;> rfl
theorem zeU {k v:Int}:∀ {l:List (Int×Int)} {i n:Nat} {x:Value},z0T (.int .i64 k) (z90 l) n=some (some (i,x))→n≤i∧(z90 l).set (i - n) (.int .i64 k,.int .i64 v)=z90 (l.set (i - n) (k,v))∧∀ q,zdt q (l.set (i - n) (k,v))=bif q==k then some v else zdt q l
 | [],i,n,x,h=>by cases h
 | p::l,i,n,x,h=>by
  have e:z0T (.int .i64 k) (z90 (p::l)) n=bf (k==p.1) (some (some (n,.int .i64 p.2))) (z0T (.int .i64 k) (z90 l) (n+1)):=rfl
  rw [e] at h
  cases hk:k==p.1 with
  | true =>
   rw [hk] at h
   cases h
   rw [Nat.sub_self]
   refine ⟨ym _,rfl,fun q=>?_⟩
   have hk:k=p.1:=by simpa using hk
   show (bif q==k then some v else zdt q l)=bif q==k then some v else (bif q==p.1 then some p.2 else zdt q l)
   rw [←hk]
   cases q==k <;> rfl
  | false =>
   rw [hk] at h
   obtain ⟨h1,h2,h3⟩:=zeU (v:=v) (show z0T (.int .i64 k) (z90 l) (n+1)=some (some (i,x)) from h)
   obtain ⟨m,hm⟩:∃ m,i - n=m+1:=⟨i - n - 1,by omega⟩
   have hm2:i - (n+1)=m:=by omega
   rw [hm2] at h2 h3
   rw [hm]
   refine ⟨by omega,congrArg ((Value.int .i64 p.1,Value.int .i64 p.2) :: ·) h2,fun q=>?_⟩
   show (bif q==p.1 then some p.2 else zdt q (l.set m (k,v)))=bif q==k then some v else (bif q==p.1 then some p.2 else zdt q l)
   rw [h3]
   have hne:¬ k=p.1:=by simpa using hk
   cases hq:q==p.1 with
   | false=>rfl
   | true =>
    have hq:q=p.1:=by simpa using hq
    have:(q==k)=false:=by simpa using fun e=>hne (e.symm.trans hq)
    rw [this];rfl
theorem zeV {k v:Int}:∀ {l:List (Int×Int)} {n:Nat},z0T (.int .i64 k) (z90 l) n=some none→(z90 l)++[(.int .i64 k,.int .i64 v)]=z90 (l++[(k,v)])∧∀ q,zdt q (l++[(k,v)])=bif q==k then some v else zdt q l
 | [],n,h=>⟨rfl,fun q=>rfl⟩
 | p::l,n,h=>by
  have e:z0T (.int .i64 k) (z90 (p::l)) n=bf (k==p.1) (some (some (n,.int .i64 p.2))) (z0T (.int .i64 k) (z90 l) (n+1)):=rfl
  rw [e] at h
  cases hk:k==p.1 with
  | true=>rw [hk] at h;cases h
  | false =>
   rw [hk] at h
   obtain ⟨h1,h2⟩:=zeV (v:=v) (show z0T (.int .i64 k) (z90 l) (n+1)=some none from h)
   refine ⟨congrArg ((Value.int .i64 p.1,Value.int .i64 p.2) :: ·) h1,fun q=>?_⟩
   show (bif q==p.1 then some p.2 else zdt q (l++[(k,v)]))=bif q==k then some v else (bif q==p.1 then some p.2 else zdt q l)
   rw [h2]
   have hne:¬ k=p.1:=by simpa using hk
   cases hq:q==p.1 with
   | false=>rfl
   | true =>
    have hq:q=p.1:=by simpa using hq
    have:(q==k)=false:=by simpa using fun e=>hne (e.symm.trans hq)
    rw [this];rfl
theorem zfH {t:Nat} {m k v:Operand} {a b c:AV} {out:VOut} (hT:zM E tb=true) (hm:av F m=some a) (hk:av F k=some b) (hv:av F v=some c) (h:zd1 tb F L t a b c=some out) (ho:∀ P∈out.ob,P) (hS:SR E S Z j L) (hF:FRR E S Z j F T):z6P E T S Z j (.mapUpdate t m k v) out:=by
 unfold zd1 at h
 split at h
 ·rename_i sz ag zs i p q hi0
  obtain ⟨ti,hti⟩:=zN hT hi0
  obtain ⟨kt,et,xk,xe,hd,hgk,hdk,hge,hz⟩:=zfm hti.d
  split at h
  ·rename_i f hb
   cases h
   obtain ⟨vm,m1,m2⟩:=hF.ev hm
   obtain ⟨vk,k1,k2⟩:=hF.ev hk
   obtain ⟨vv,v1,v2⟩:=hF.ev hv
   cases m2 with
   | map hj =>
    rename_i b'
    obtain ⟨b2,h1,l,h2,h3⟩:=hS.blk _ _ hb id
    obtain rfl:b'=b2:=Option.some.inj (hj.symm.trans h1)
    cases k2 with
    | p k2=>cases k2 with
     | int =>
      cases v2 with
      | p v2=>cases v2 with
       | int =>
        obtain ⟨r,h4,h5⟩:=z8Y p l 0
        have e:∀ cF dF,zR E cF dF T S (.mapUpdate t m k v)=some (undef,S.put b' (.map (z2Y (z90 l) (.int .i64 p) (.int .i64 q) r))):=by
         intro cF dF
         show ob (T.ev m) _=_
         rw [m1]
         show ob (T.ev k) _=_
         rw [k1]
         show ob (T.ev v) _=_
         rw [v1]
         show ob (z1Y E t (.map (some b')) (.int .i64 p) (.int .i64 q) S) _=_
         unfold z1Y
         rw [hti.get]
         show ob (ob (mapD ti.desc) _) _=_
         rw [hd]
         show ob (ob (E.ti.get kt) _) _=_
         rw [hgk]
         show ob (ob (ob (S.heap.get b') z8x) _) _=_
         rw [h2]
         show ob (gd (zy xk.desc _) (ob (z0T (.int .i64 p) (z90 l) 0) _)) _=_
         rw [hdk,h4];rfl
        have hl:∃ l',z2Y (z90 l) (.int .i64 p) (.int .i64 q) r=z90 l'∧∀ x,zdt x l'=bif x==p then some q else f x:=by
         cases r with
         | none =>
          obtain ⟨g1,g2⟩:=zeV (v:=q) h4
          exact ⟨_,g1,fun x=>by rw [g2,h3]⟩
         | some y =>
          obtain ⟨g0,g1,g2⟩:=zeU (v:=q) (show z0T (.int .i64 p) (z90 l) 0=some (some (y.1,y.2)) from h4)
          exact ⟨_,g1,fun x=>by rw [g2,h3]⟩
        obtain ⟨l',g1,g2⟩:=hl
        refine ⟨undef,S.put b' (.map (z2Y (z90 l) (.int .i64 p) (.int .i64 q) r)),Z,j,e,hS.put hb hj ⟨l',?_,g2⟩,hF.mono' (z07 hS hj _) (fun _ _ h=>h),.junk _,Ex.put hS hj _,fun h=>yn (Nat.min_le_right _ _) h,fun h=>(by cases h),fun _=>⟨b',hj,?_,_,rfl⟩,fun i b h0 h1=>(by rw [h0] at h1;cases h1),fun i b _ h=>h⟩
        ·show (S.heap.set b' _).get b'=_
         rw [Tr.get_set,if_pos rfl,g1]
        ·show ob (T.ev m) z3M=_
         rw [m1];rfl
  ·cases h
 ·rename_i sz ag z0 zs i p hi0
  obtain ⟨ti,hti⟩:=zN hT hi0
  obtain ⟨kt,et,xk,xe,hd,hgk,hdk,hge,hz⟩:=z5U hti.d
  split at h
  ·rename_i mm pp q hb
   cases h
   obtain ⟨vm,m1,m2⟩:=hF.ev hm
   obtain ⟨vk,k1,k2⟩:=hF.ev hk
   obtain ⟨vv,v1,v2⟩:=hF.ev hv
   cases m2 with
   | map hj =>
    rename_i b'
    obtain ⟨b2,h1,l,h2,h3,hl⟩:=hS.blk _ _ hb id
    obtain rfl:b'=b2:=Option.some.inj (hj.symm.trans h1)
    cases k2 with
    | p k2=>cases k2 with
     | int =>
      obtain ⟨r,h4,h5⟩:=z4G p l 0
      obtain ⟨_,l',g1,g2,_,g4,g5⟩:=zqz (v:=vv) h4 h3.1
      have g1:z2Y (z4Q l) (.int .i64 (Int.ofNat p)) vv r=z4Q l':=by
       rw [←g1]
       cases r <;> rfl
      have e:∀ cF dF,zR E cF dF T S (.mapUpdate t m k v)=some (undef,S.put b' (.map (z2Y (z4Q l) (.int .i64 (Int.ofNat p)) vv r))):=by
       intro cF dF
       show ob (T.ev m) _=_
       rw [m1]
       show ob (T.ev k) _=_
       rw [k1]
       show ob (T.ev v) _=_
       rw [v1]
       show ob (z1Y E t (.map (some b')) (.int .i64 (Int.ofNat p)) vv S) _=_
       unfold z1Y
       rw [hti.get]
       show ob (ob (mapD ti.desc) _) _=_
       rw [hd]
       show ob (ob (E.ti.get kt) _) _=_
       rw [hgk]
       show ob (ob (ob (S.heap.get b') z8x) _) _=_
       rw [h2]
       show ob (gd (zy xk.desc _) (ob (z0T (.int .i64 (Int.ofNat p)) (z4Q l) 0) _)) _=_
       rw [hdk,h4];rfl
      have hget:(S.put b' (.map (z2Y (z4Q l) (.int .i64 (Int.ofNat p)) vv r))).heap.get b'=some (.map (z4Q l')):=by
       show (S.heap.set b' _).get b'=_
       rw [Tr.get_set,if_pos rfl,g1]
      refine ⟨undef,S.put b' (.map (z2Y (z4Q l) (.int .i64 (Int.ofNat p)) vv r)),Z,j,e,hS.put hb hj ⟨l',hget,⟨g2,fun n e=>by
       cases mm with
       | none=>cases e
       | some n0 =>
        cases e
        rw [g5,h3.2 n0 rfl]
        exact congrArg (fun x=>bif x then n0 else n0+1) (hl p).1⟩,fun q=>?_⟩,hF.mono' (z07 hS hj _) (fun _ _ h=>h),.junk _,Ex.put hS hj _,fun h=>yn (Nat.min_le_right _ _) h,fun h=>(by cases h),fun _=>⟨b',hj,?_,_,rfl⟩,fun i b h0 h1=>(by rw [h0] at h1;cases h1),fun i b _ h=>h⟩
      ·obtain ⟨h6,h7⟩:=hl q
       have h6:(z1A q l).isSome=(pp q).isSome:=h6
       rw [g4]
       cases hq:Nat.beq p q with
       | true =>
        refine ⟨?_,fun w hw=>?_⟩
        ·show true=(bif Nat.beq p q then _ else pp q).isSome
         rw [hq];rfl
        ·have hw:vv=w:=Option.some.inj hw
         subst hw
         show VR _ _ _ _ (.p ((bif Nat.beq p q then _ else pp q).getD .nilp)) _
         rw [hq]
         exact v2.mono' (z07 hS hj _) (fun _ _ h=>h)
       | false =>
        refine ⟨?_,fun w hw=>?_⟩
        ·show (z1A q l).isSome=(bif Nat.beq p q then _ else pp q).isSome
         rw [hq];exact h6
        ·show VR _ _ _ _ (.p ((bif Nat.beq p q then _ else pp q).getD .nilp)) _
         rw [hq]
         exact (h7 w hw).mono' (z07 hS hj _) (fun _ _ h=>h)
      ·show ob (T.ev m) z3M=_
       rw [m1];rfl
  ·rename_i mm pp xs hb hne
   cases h
   obtain ⟨vm,m1,m2⟩:=hF.ev hm
   obtain ⟨vk,k1,k2⟩:=hF.ev hk
   obtain ⟨vv,v1,v2⟩:=hF.ev hv
   cases m2 with
   | map hj =>
    rename_i b'
    obtain ⟨b2,h1,l,h2,h3,hl⟩:=hS.blk _ _ hb id
    obtain rfl:b'=b2:=Option.some.inj (hj.symm.trans h1)
    cases k2 with
    | p k2=>cases k2 with
     | int =>
      obtain ⟨r,h4,h5⟩:=z4G p l 0
      obtain ⟨_,l',g1,g2,_,g4,g5⟩:=zqz (v:=vv) h4 h3.1
      have g1:z2Y (z4Q l) (.int .i64 (Int.ofNat p)) vv r=z4Q l':=by
       rw [←g1]
       cases r <;> rfl
      have e:∀ cF dF,zR E cF dF T S (.mapUpdate t m k v)=some (undef,S.put b' (.map (z2Y (z4Q l) (.int .i64 (Int.ofNat p)) vv r))):=by
       intro cF dF
       show ob (T.ev m) _=_
       rw [m1]
       show ob (T.ev k) _=_
       rw [k1]
       show ob (T.ev v) _=_
       rw [v1]
       show ob (z1Y E t (.map (some b')) (.int .i64 (Int.ofNat p)) vv S) _=_
       unfold z1Y
       rw [hti.get]
       show ob (ob (mapD ti.desc) _) _=_
       rw [hd]
       show ob (ob (E.ti.get kt) _) _=_
       rw [hgk]
       show ob (ob (ob (S.heap.get b') z8x) _) _=_
       rw [h2]
       show ob (gd (zy xk.desc _) (ob (z0T (.int .i64 (Int.ofNat p)) (z4Q l) 0) _)) _=_
       rw [hdk,h4];rfl
      have hget:(S.put b' (.map (z2Y (z4Q l) (.int .i64 (Int.ofNat p)) vv r))).heap.get b'=some (.map (z4Q l')):=by
       show (S.heap.set b' _).get b'=_
       rw [Tr.get_set,if_pos rfl,g1]
      refine ⟨undef,S.put b' (.map (z2Y (z4Q l) (.int .i64 (Int.ofNat p)) vv r)),Z,j,e,hS.put hb hj ⟨l',hget,⟨g2,fun n e=>by
       cases mm with
       | none=>cases e
       | some n0 =>
        cases e
        rw [g5,h3.2 n0 rfl]
        exact congrArg (fun x=>bif x then n0 else n0+1) (hl p).1⟩,fun q=>?_⟩,hF.mono' (z07 hS hj _) (fun _ _ h=>h),.junk _,Ex.put hS hj _,fun h=>yn (Nat.min_le_right _ _) h,fun h=>(by cases h),fun _=>⟨b',hj,?_,_,rfl⟩,fun i b h0 h1=>(by rw [h0] at h1;cases h1),fun i b _ h=>h⟩
      ·obtain ⟨h6,h7⟩:=hl q
       rw [g4]
       unfold zci z5L
       cases hq:Nat.beq p q with
       | true=>exact ⟨rfl,fun w hw=>by cases hw;exact v2.mono' (z07 hS hj _) (fun _ _ h=>h)⟩
       | false=>exact ⟨h6,fun w hw=>(h7 w hw).mono' (z07 hS hj _) (fun _ _ h=>h)⟩
      ·show ob (T.ev m) z3M=_
       rw [m1];rfl
  ·cases h
 ·cases h
theorem zmv {o:Op} {z:Bool} {out:VOut} (hT:zM E tb=true) (h:zgH tb F L z o=some out) (ho:∀ P∈out.ob,P) (hS:SR E S Z j L) (hF:FRR E S Z j F T):z6P E T S Z j o out:=by
 cases o with
 | alloc t=>exact zha hT ((z0K (nx L) fun q=>zem tb F L q t).symm.trans h) hS hF
 | box t x =>
  simp only [zgH] at h
  split at h
  ·rename_i a ha;exact zmC ha ((z0K (nx L) _).symm.trans h) hS hF
  ·cases h
 | buildSlice t len parts=>exact z9i hT ((z0K (nx L) fun q=>z3p tb F L q z t len parts.toList).symm.trans h) hS hF
 | makeSlice t x y =>
  simp only [zgH] at h
  split at h
  ·rename_i a b ha hb;exact za8 hT ha hb ((z0K (nx L) _).symm.trans h) ho hS hF
  ·cases h
 | store t a x =>
  simp only [zgH] at h
  split at h
  ·rename_i a b ha hb;exact zgQ hT ha hb h ho hS hF
  ·cases h
 | makeMap t r =>
  cases r with
  | none=>exact zd2 ((z0K (nx L) fun q=>z7z tb F L q t).symm.trans h) hS hF
  | some _=>cases h
 | range t x =>
  simp only [zgH] at h
  split at h
  ·rename_i a ha;exact zgU hT ha ((z0K (nx L) _).symm.trans h) hS hF
  ·cases h
 | mapUpdate t m k v =>
  simp only [zgH] at h
  split at h
  ·rename_i a b c ha hb hc;exact zfH hT ha hb hc h ho hS hF
  ·cases h
 | call c =>
  simp only [zgH] at h
  split at h
  ·rename_i t u s x hc ht ha;exact zfJ hT hc ht ha ((z0K (nx L) _).symm.trans h) ho hS hF
  ·rename_i t s hc ht ha;exact zh4 hT hc ht ha ((z0K (nx L) _).symm.trans h) ho hS hF
  ·cases h
 | _=>cases h
end
end
noncomputable section
def zlX (x:Nat) (o:Oper):Bool:=Option.rec true (fun d=>!Nat.beq d x) o.dst
def z6z (ops:List Oper) (x:Nat):Bool:=ops.all (zlX x)
def Agree (ops:List Oper) (T0 T:Fr):Prop:=∀ x,z6z ops x=true→T.t.get x=T0.t.get x
def zpD (ops:List Oper):Op→Option Nat
 | .load _ (.tmp x)=>bif z6z ops x then some x else none
 | _=>none
def z4i (T:Fr) (x:Nat):Option Nat:=ob (ob (T.t.get x) addrOf) fun p=>some p.block
def zrw (ops:List Oper) (m x y:Nat):Prop:=∃ o t f,ops[m]? = some o∧o.op = .fieldAddr t (.tmp y) f∧o.guard=none∧o.dst=some x∧z6z ops y=true∧∀ k o',ops[k]? = some o'→k≠m→zlX x o'=true
def Prov (ops:List Oper) (i:Nat) (T:Fr):Prop:=∀ m x y,m<i→zrw ops m x y→∀ b,z4i T y=some b→z4i T x=some b
def z4m (ops:List Oper) (T0:Fr) (k:Nat) (o:Op) (t:Option (List Nat)):Prop:=(idle o=true→t=some [])∧(∀ x,zpD ops o=some x→t=zH T0 o)∧∀ ty x m y,o = .load ty (.tmp x)→m<k→zrw ops m x y→∀ b,z4i T0 y=some b→t=some [b]
structure DIT (ops:List Oper) (bs:List Nat) (r0:Nat) (T0:Fr) (i:Nat) (D:Dr):Prop where
 r:D.r=r0
 recs:∀ q∈D.recs,q.1<i∧∀ o,ops[q.1]? = some o→z4m ops T0 q.1 o.op q.2
 wrs:∀ q∈D.wrs,q.1<i∧∀ k o t,ops[k]? = some o→q.1<k→z4m ops T0 k o.op t→z1j bs r0 q.1 q.2.1 q.2.2 k t=true
 rgs:∀ q∈D.rgs,q.1<i∧∀ k o t,ops[k]? = some o→q.1<k→z4m ops T0 k o.op t→(z6I bs q.1 k||z5v q.2 t)=true
def Late (ops:List Oper) (D:Dr) (T:Fr):Prop:=∀ q∈D.recs,∀ o,ops[q.1]? = some o→∀ ty x,o.op = .load ty (.tmp x)→z6z (ops.drop q.1) x=true→q.2=zH T o.op
def DI (ops:List Oper) (bs:List Nat) (r0 i:Nat) (D:Dr) (T:Fr):Prop:=(∃ T0,Agree ops T0 T∧Prov ops i T∧DIT ops bs r0 T0 i D)∧Late ops D T
theorem z9v {T T':Fr} {o:Op} {ty x:Nat} (he:o = .load ty (.tmp x)) (h:T'.t.get x=T.t.get x):zH T o=zH T' o:=by
 subst he
 show ob (ob (T.t.get x) addrOf) _=ob (ob (T'.t.get x) addrOf) _
 rw [h]
theorem zfl {ops:List Oper} {q i:Nat} {o:Oper} (hi:ops[i]? = some o) (h:q≤i):o∈ops.drop q:=by
 refine List.mem_of_getElem? (i:=i - q) ?_
 rw [List.getElem?_drop,←hi];congr 1;omega
theorem zcr {ops:List Oper} {o:Op} {x:Nat} (h:zpD ops o=some x):(∃ t,o = .load t (.tmp x))∧z6z ops x=true:=by
 unfold zpD at h
 split at h
 ·rename_i t y
  cases hb:z6z ops y with
  | true=>rw [hb] at h;cases h;exact ⟨⟨_,rfl⟩,hb⟩
  | false=>rw [hb] at h;cases h
 ·cases h
theorem zft {T T':Fr} {ty x:Nat} {b:Nat} (h:z4i T x=some b):zH T (.load ty (.tmp x))=some [b]:=by
 obtain ⟨p,h1,h2⟩:=z8 h
 cases h2
 show ob (ob (T.t.get x) addrOf) _=_
 rw [h1];rfl
theorem z3q {ops:List Oper} {T0 T:Fr} {k:Nat} (h:Agree ops T0 T) (hp:Prov ops k T) (o:Op):z4m ops T0 k o (zH T o):=by
 refine ⟨fun hi=>z6E hi T,fun x hx=>?_,fun ty x m y ho hm hd b hb=>?_⟩
 ·obtain ⟨⟨t,rfl⟩,hn⟩:=zcr hx
  show ob (ob (T.t.get x) addrOf) _=ob (ob (T0.t.get x) addrOf) _
  rw [h x hn]
 ·subst ho
  have hd':=hd
  obtain ⟨_,_,_,_,_,_,_,hn,_⟩:=hd'
  refine zft (T':=T) (hp m x y hm hd b ?_)
  unfold z4i at hb ⊢
  rw [h y hn];exact hb
def StepT (o:Oper) (T T':Fr):Prop:=(∀ x,zlX x o=true→T'.t.get x=T.t.get x)∧∀ t y f,o.op = .fieldAddr t (.tmp y) f→o.guard=none→∀ x,o.dst=some x→∀ b,z4i T y=some b→z4i T' x=some b
theorem zlN {T T':Fr} {o:Oper} {v:Value} (h:T.put o.dst v=some T'):∀ x,zlX x o=true→T'.t.get x=T.t.get x:=by
 intro x hx
 unfold Fr.put at h
 unfold zlX at hx
 cases hd:o.dst with
 | none=>rw [hd] at h;cases h;rfl
 | some d =>
  rw [hd] at h hx
  obtain ⟨h1,h2⟩:=ze h
  cases h2
  show (T.t.set d v).get x=_
  rw [Tr.get_set,if_neg]
  intro e
  subst e
  simp at hx
theorem zj1 {E:Env} {t f:Nat} {v w:Value} (h:z1n E t v f=some w):ob (addrOf w) (fun p=>some p.block)=ob (addrOf v) (fun p=>some p.block):=by
 obtain ⟨a,h1,h2⟩:=z8 h
 obtain ⟨i,_,h3⟩:=z8 h2
 obtain ⟨fs,_,h4⟩:=z8 h3
 obtain ⟨_,h5⟩:=z0l h4
 obtain ⟨q,_,h6⟩:=z8 h5
 obtain ⟨_,h7⟩:=ze h6
 cases h7
 rw [h1];rfl
theorem z1L {E:Env} {cF:z1f} {dF:z15} {ops:Array Oper} {o:Oper} {T T':Fr} {S S':St} (h:zq E cF dF ops o T S=some (T',S')):StepT o T T':=by
 unfold zq at h
 have key:∀ r,z3P T o.dst r=some (T',S')→T.put o.dst r.1=some T':=fun r hr=>by
  unfold z3P at hr
  cases hp:T.put o.dst r.1 with
  | none=>rw [hp] at hr;cases hr
  | some T1=>rw [hp] at hr;cases hr;rfl
 cases hw:z7W ops T o.guard with
 | none=>rw [hw] at h;cases h
 | some b =>
  rw [hw] at h
  cases b with
  | false=>exact ⟨zlN (key _ h),fun t y f _ hg=>by rw [hg] at hw;cases hw⟩
  | true =>
   have h:ob (zR E cF dF T S o.op) (z3P T o.dst)=some (T',S'):=h
   obtain ⟨r,he,h⟩:=z8 h
   have hp:=key _ h
   refine ⟨zlN hp,fun t y f ho _ x hx b hb=>?_⟩
   rw [ho] at he
   obtain ⟨h1,_⟩:=z1T he
   obtain ⟨v,hv,h2⟩:=z8 h1
   rw [hx] at hp
   obtain ⟨_,h3⟩:=ze hp
   cases h3
   unfold z4i at hb ⊢
   show ob (ob ((T.t.set x r.1).get x) addrOf) _=_
   rw [Tr.get_set,if_pos rfl]
   have e:=zj1 h2
   rw [show T.t.get y=some v from hv] at hb
   have hb:ob (addrOf v) (fun p=>some p.block)=some b:=hb
   rw [←e] at hb;exact hb
theorem Agree.step {ops:List Oper} {T0 T T':Fr} {i:Nat} {o:Oper} (h:Agree ops T0 T) (hi:ops[i]? = some o) (ht:StepT o T T'):Agree ops T0 T':=fun x hx=>by
 rw [ht.1 x (List.all_eq_true.1 hx o (List.mem_of_getElem? hi)),h x hx]
theorem Prov.step {ops:List Oper} {T T':Fr} {i:Nat} {o:Oper} (h:Prov ops i T) (hi:ops[i]? = some o) (ht:StepT o T T'):Prov ops (i+1) T':=by
 intro m x y hm hd b hb
 obtain ⟨o2,t,f,h1,h2,h3,h4,h5,h6⟩:=hd
 have hy:T'.t.get y=T.t.get y:=ht.1 y (List.all_eq_true.1 h5 o (List.mem_of_getElem? hi))
 have hb':z4i T y=some b:=by unfold z4i at hb ⊢;rw [←hy];exact hb
 by_cases e:m=i
 ·subst e
  rw [hi] at h1;cases h1
  exact ht.2 t y f h2 h3 x h4 b hb'
 ·have:=h m x y (by omega) ⟨o2,t,f,h1,h2,h3,h4,h5,h6⟩ b hb'
  unfold z4i at this ⊢
  rw [ht.1 x (h6 i o hi fun e2=>e e2.symm)];exact this
section
variable {ops:Array Oper} {bs:List Nat} {r0:Nat}
theorem z4a {i:Nat} {o:Oper} {D D':Dr} {T T':Fr} (hi:ops.toList[i]? = some o) (hD:Late ops.toList D T) (hlt:∀ q∈D.recs,q.1<i) (ht:StepT o T T') (hr:D'.recs=(i,zH T o.op)::D.recs):Late ops.toList D' T':=by
 intro q hq o' ho' ty x he hn
 rw [hr] at hq
 rcases List.mem_cons.1 hq with rfl | hq
 ·have ho':ops.toList[i]? = some o':=ho'
  rw [hi] at ho';cases ho'
  exact z9v he (ht.1 x (List.all_eq_true.1 hn o (zfl hi (ym _))))
 ·rw [hD q hq o' ho' ty x he hn]
  exact z9v he (ht.1 x (List.all_eq_true.1 hn o (zfl hi (Nat.le_of_lt (hlt q hq)))))
theorem zla {T:Fr} {size:Nat}:DI ops.toList bs size 0 ⟨size,[],[],[],[]⟩ T:=⟨⟨T,fun _ _=>rfl,fun m _ _ hm=>absurd hm (Nat.not_lt_zero m),rfl,(fun q h=>by cases h),(fun q h=>by cases h),(fun q h=>by cases h)⟩,fun q h=>(by cases h)⟩
theorem z0U {i:Nat} {o:Oper} {D:Dr} {T T':Fr} {size:Nat} (hi:ops.toList[i]? = some o) (hD:DI ops.toList bs r0 i D T) (ht:StepT o T T'):DI ops.toList bs r0 (i+1) ⟨D.r,D.starts++[size],(i,zH T o.op)::D.recs,D.wrs,D.rgs⟩ T':=by
 obtain ⟨⟨T0,ha,hP,hD⟩,hL⟩:=hD
 refine ⟨⟨T0,ha.step hi ht,hP.step hi ht,hD.r,fun q hq=>?_,fun q hq=>⟨Nat.lt_succ_of_lt (hD.wrs q hq).1,(hD.wrs q hq).2⟩,fun q hq=>⟨Nat.lt_succ_of_lt (hD.rgs q hq).1,(hD.rgs q hq).2⟩⟩,z4a hi hL (fun q hq=>(hD.recs q hq).1) ht rfl⟩
 rcases List.mem_cons.1 hq with rfl | hq
 ·refine ⟨Nat.lt_succ_self _,fun o' ho'=>?_⟩
  rw [hi] at ho';cases ho'
  exact z3q ha hP _
 ·exact ⟨Nat.lt_succ_of_lt (hD.recs q hq).1,(hD.recs q hq).2⟩
theorem z5T {i:Nat} {o:Oper} {D:Dr} {T:Fr} (hi:ops.toList[i]? = some o) (hD:DI ops.toList bs r0 i D T):((D.wrs.isEmpty||zaA bs D.r i (zH T o.op) D.wrs)&&zkH bs i (zH T o.op) D.rgs)=true:=by
 obtain ⟨⟨T0,ha,hP,hD⟩,_⟩:=hD
 rw [yw]
 refine ⟨?_,List.all_eq_true.2 fun w hw=>?_⟩
 ·rw [Bool.or_eq_true]
  refine .inr (List.all_eq_true.2 fun w hw=>?_)
  obtain ⟨h1,h2⟩:=hD.wrs w hw
  rw [hD.r]
  exact h2 i o _ hi h1 (z3q ha hP _)
 ·obtain ⟨h1,h2⟩:=hD.rgs w hw
  exact h2 i o _ hi h1 (z3q ha hP _)
theorem z2j {i:Nat} {o:Oper} {D:Dr} {T:Fr} {size low:Nat} (hi:ops.toList[i]? = some o) (hD:DI ops.toList bs r0 i D T) (h:size≤low∨uni bs i=true) :
  z0s ops bs i T size low o.op D=some ⟨D.r,D.starts++[size],(i,zH T o.op)::D.recs,D.wrs,D.rgs⟩:=by
 unfold z0s
 rw [z5T hi hD]
 have:(Nat.ble size low||uni bs i)=true:=by
  rw [Bool.or_eq_true]
  exact h.imp (fun h=>Nat.ble_eq_true_of_le h) id
 rw [this];rfl
def loadAt (ops:List Oper) (F:VK) (at_:Nat) (o:Op):Bool:=match zpD ops o with
 | some x=>match ak F x with
  | some (.ref n _)=>!Nat.beq n at_
  | some (.p (.fp _ _))=>true
  | _=>false
 | none=>false
def z9D (ops:List Oper) (F:VK) (at_ k:Nat) (o:Op):Bool:=match o with
 | .load _ (.tmp x)=>z6z (ops.drop k) x&&(match ak F x with
  | some (.ref n _)=>!Nat.beq n at_
  | some (.p (.fp _ _))=>true
  | _=>false)
 | _=>false
def zpO (bs:List Nat) (ops:List Oper) (F:VK) (at_ i:Nat):Bool:=ops.zipIdx.all fun p=>Nat.beq p.2 i||(z6I bs i p.2||((idle p.1.op||loadAt ops F at_ p.1.op)||(Nat.blt p.2 i&&z9D ops F at_ p.2 p.1.op)))
def zb5 (bs:List Nat) (ops:List Oper) (F:VK) (at_ i m:Nat):Bool:=ops.zipIdx.all fun p=>Nat.beq p.2 i||(z6I bs i p.2||(!((bs[p.2]?).getD 0).testBit m||(idle p.1.op||loadAt ops F at_ p.1.op)))
section
variable {E:Env} {S:St} {Z:Nat→Prop} {j:Nm} {F:VK} {T T0:Fr} {L:VS} {at_ X:Nat}
theorem z8q {i k r m:Nat} {o:Oper} {t:Option (List Nat)} (hS:SR E S Z j L) (hF:FRR E S Z j F T) (ha:Agree ops.toList T0 T) (hX:j at_=some X) (h:(idle o.op||loadAt ops.toList F at_ o.op)=true) {k0:Nat} (ht:z4m ops.toList T0 k0 o.op t):z1j bs r i X m k t=true:=by
 unfold z1j
 rw [Bool.or_eq_true] at h
 rcases h with h | h
 ·rw [ht.1 h];simp
 ·unfold loadAt at h
  split at h
  ·rename_i x hx
   obtain ⟨⟨ty,he⟩,hn⟩:=zcr hx
   have ht2:=ht.2.1 x hx
   rw [he] at ht2
   have ht3:t=ob (ob (T0.t.get x) addrOf) fun p=>some [p.block]:=ht2
   rw [←ha x hn] at ht3
   split at h
   ·rename_i n off hk
    obtain ⟨v,h1,h2⟩:=hF x _ hk
    cases h2 with
    | ref hj =>
     rename_i c
     rw [h1] at ht3
     have ht4:t=some [c]:=ht3
     have hne:¬ c=X:=fun e=>by
      subst e
      have:=hS.inj _ _ _ hj hX
      rw [this,Nat.beq_refl] at h;cases h
     rw [ht4]
     show (_||(_||(!Nat.beq c X&&true)))=true
     rw [z0B hne];simp
   ·rename_i ps off hk
    obtain ⟨v,h1,h2⟩:=hF x _ hk
    cases h2 with
    | p h2=>cases h2 with
     | fp hz hc hcut hh =>
      rename_i c o2 cs ty2 vs
      rw [h1] at ht3
      have ht4:t=some [c]:=ht3
      have hne:¬ c=X:=fun e=>by
       subst e
       exact (hS.jlt _ _ hX).2 hz
      rw [ht4]
      show (_||(_||(!Nat.beq c X&&true)))=true
      rw [z0B hne];simp
   ·cases h
  ·cases h
theorem zbN {i k r m:Nat} {o:Oper} (hS:SR E S Z j L) (hF:FRR E S Z j F T) (hX:j at_=some X) {q:Nat×Option (List Nat)} {D:Dr} (hL:Late ops.toList D T) (hq:q∈D.recs) (ho:ops.toList[q.1]? = some o) (h:z9D ops.toList F at_ q.1 o.op=true):z1j bs r i X m k q.2=true:=by
 unfold z1j
 unfold z9D at h
 split at h
 ·rename_i ty x he
  rw [yw] at h
  obtain ⟨hn,h⟩:=h
  have ht3:q.2=ob (ob (T.t.get x) addrOf) fun p=>some [p.block]:=by rw [hL q hq o ho ty x he hn,he];rfl
  split at h
  ·rename_i n off hk
   obtain ⟨v,h1,h2⟩:=hF x _ hk
   cases h2 with
   | ref hj =>
    rename_i c
    rw [h1] at ht3
    have ht4:q.2=some [c]:=ht3
    have hne:¬ c=X:=fun e=>by
     subst e
     have:=hS.inj _ _ _ hj hX
     rw [this,Nat.beq_refl] at h;cases h
    rw [ht4]
    show (_||(_||(!Nat.beq c X&&true)))=true
    rw [z0B hne];simp
  ·rename_i ps off hk
   obtain ⟨v,h1,h2⟩:=hF x _ hk
   cases h2 with
   | p h2=>cases h2 with
    | fp hz hc hcut hh =>
     rename_i c o2 cs ty2 vs
     rw [h1] at ht3
     have ht4:q.2=some [c]:=ht3
     have hne:¬ c=X:=fun e=>by
      subst e
      exact (hS.jlt _ _ hX).2 hz
     rw [ht4]
     show (_||(_||(!Nat.beq c X&&true)))=true
     rw [z0B hne];simp
  ·cases h
 ·cases h
theorem znX {i:Nat} {o:Oper} {D:Dr} {T':Fr} {size low:Nat} (hS:SR E S Z j L) (hF:FRR E S Z j F T) (hj:j at_=some X) (hi:ops.toList[i]? = some o) (hD:DI ops.toList bs r0 i D T) (ht:StepT o T T') (hX:storeAt T o.op=some X) (hr:X<r0) (hc:zpO bs ops.toList F at_ i=true) :
  ∃ D',z0s ops bs i T size low o.op D=some D'∧DI ops.toList bs r0 (i+1) D' T'∧D'.starts=D.starts++[size]:=by
 have pair:∀ (T0:Fr) (k:Nat) (o':Oper) (t:Option (List Nat)) (r m:Nat),Agree ops.toList T0 T→ops.toList[k]? = some o'→k≠i→z4m ops.toList T0 k o'.op t→z1j bs r i X m k t=true∨(k<i∧z9D ops.toList F at_ k o'.op=true):=by
  intro T0 k o' t r m ha hk hne ht
  have:=List.all_eq_true.1 hc (o',k) (List.mk_mem_zipIdx_iff_getElem?.2 hk)
  rw [Bool.or_eq_true] at this
  rcases this with h1 | h1
  ·exact absurd (zm h1) hne
  ·rw [Bool.or_eq_true] at h1
   rcases h1 with h1 | h1
   ·refine .inl ?_
    unfold z1j;rw [h1];rfl
   ·rw [Bool.or_eq_true] at h1
    rcases h1 with h1 | h1
    ·exact .inl (z8q hS hF ha hj h1 ht)
    ·rw [yw] at h1
     exact .inr ⟨z0w h1.1,h1.2⟩
 unfold z0s
 rw [z5T hi hD]
 cases hb:(Nat.ble size low||uni bs i) with
 | true=>exact ⟨_,rfl,z0U hi hD ht,rfl⟩
 | false =>
  show ∃ D',obE (storeAt T o.op) _ _=_∧_
  rw [hX]
  have hD0:=z0U (size:=size) hi hD ht
  obtain ⟨⟨T0,ha,hP,hD⟩,hL⟩:=hD
  have h1:(Nat.blt X D.r||((bs[i]?).getD 0).testBit (zx X (D.starts++[size]) - 1))=true:=by
   rw [Bool.or_eq_true,hD.r]
   exact .inl (by simpa using hr)
  have h2:z1N ops o.op bs D.r i X (zx X (D.starts++[size]) - 1) D.recs=true:=by
   refine zlU fun q hq=>?_
   obtain ⟨h3,h4⟩:=hD.recs q hq
   have hlt:q.1<ops.toList.length:=by
    have:=(List.getElem?_eq_some_iff.1 hi).1
    omega
   have hq1:ops.toList[q.1]? = some ops.toList[q.1]:=List.getElem?_eq_getElem hlt
   rcases pair T0 _ _ _ D.r (zx X (D.starts++[size]) - 1) ha hq1 (by omega) (h4 _ hq1) with h5 | h5
   ·exact h5
   ·exact zbN hS hF hj hL hq hq1 h5.2
  show ∃ D',gd ((Nat.blt X D.r||((bs[i]?).getD 0).testBit (zx X (D.starts++[size]) - 1))&&z1N ops o.op bs D.r i X (zx X (D.starts++[size]) - 1) D.recs) _=_∧_
  rw [h1,h2]
  refine ⟨_,rfl,⟨⟨T0,ha.step hi ht,hP.step hi ht,?_⟩,z4a hi hL (fun q hq=>(hD.recs q hq).1) ht rfl⟩,rfl⟩
  refine ⟨hD.r,fun q hq=>?_,fun q hq=>?_,fun q hq=>⟨Nat.lt_succ_of_lt (hD.rgs q hq).1,(hD.rgs q hq).2⟩⟩
  ·rcases List.mem_cons.1 hq with rfl | hq
   ·refine ⟨Nat.lt_succ_self _,fun o' ho'=>?_⟩
    rw [hi] at ho';cases ho'
    exact z3q ha hP _
   ·exact ⟨Nat.lt_succ_of_lt (hD.recs q hq).1,(hD.recs q hq).2⟩
  ·rcases List.mem_cons.1 hq with rfl | hq
   ·exact ⟨Nat.lt_succ_self _,fun k o t hk hne ht=>(pair T0 _ _ _ _ _ ha hk (by have h6:i<k:=hne;omega) ht).resolve_right fun h6=>by have h7:i<k:=hne;omega⟩
   ·exact ⟨Nat.lt_succ_of_lt (hD.wrs q hq).1,(hD.wrs q hq).2⟩
theorem znW {i m:Nat} {o:Oper} {D:Dr} {T':Fr} {size low:Nat} (hS:SR E S Z j L) (hF:FRR E S Z j F T) (hj:j at_=some X) (hi:ops.toList[i]? = some o) (hD:DI ops.toList bs r0 i D T) (ht:StepT o T T') (hX:storeAt T o.op=some X) (hr:r0≤X) (hm:zx X (D.starts++[size])=m+1) (hc:zb5 bs ops.toList F at_ i m=true) (hbi:((bs[i]?).getD 0).testBit m=true) :
  ∃ D',z0s ops bs i T size low o.op D=some D'∧DI ops.toList bs r0 (i+1) D' T'∧D'.starts=D.starts++[size]:=by
 have pair:∀ (T0:Fr) (k:Nat) (o':Oper) (t:Option (List Nat)),Agree ops.toList T0 T→ops.toList[k]? = some o'→k≠i→z4m ops.toList T0 k o'.op t→z1j bs r0 i X m k t=true:=by
  intro T0 k o' t ha hk hne ht
  have:=List.all_eq_true.1 hc (o',k) (List.mk_mem_zipIdx_iff_getElem?.2 hk)
  rw [Bool.or_eq_true] at this
  rcases this with h1 | h1
  ·exact absurd (zm h1) hne
  ·rw [Bool.or_eq_true] at h1
   rcases h1 with h1 | h1
   ·unfold z1j;rw [h1];rfl
   ·rw [Bool.or_eq_true] at h1
    rcases h1 with h1 | h1
    ·unfold z1j
     have h1:(!((bs[k]?).getD 0).testBit m)=true:=h1
     rw [h1,Nat.ble_eq_true_of_le hr];simp
    ·exact z8q hS hF ha hj h1 ht
 unfold z0s
 rw [z5T hi hD]
 cases hb:(Nat.ble size low||uni bs i) with
 | true=>exact ⟨_,rfl,z0U hi hD ht,rfl⟩
 | false =>
  show ∃ D',obE (storeAt T o.op) _ _=_∧_
  rw [hX]
  obtain ⟨⟨T0,ha,hP,hD⟩,hL⟩:=hD
  have h1:(Nat.blt X D.r||((bs[i]?).getD 0).testBit (zx X (D.starts++[size]) - 1))=true:=by
   rw [hm,Bool.or_eq_true]
   exact .inr hbi
  have h2:z1N ops o.op bs D.r i X (zx X (D.starts++[size]) - 1) D.recs=true:=by
   refine zlU fun q hq=>?_
   obtain ⟨h3,h4⟩:=hD.recs q hq
   have hlt:q.1<ops.toList.length:=by
    have:=(List.getElem?_eq_some_iff.1 hi).1
    omega
   have hq1:ops.toList[q.1]? = some ops.toList[q.1]:=List.getElem?_eq_getElem hlt
   rw [hm,hD.r]
   exact pair T0 _ _ _ ha hq1 (by omega) (h4 _ hq1)
  show ∃ D',gd ((Nat.blt X D.r||((bs[i]?).getD 0).testBit (zx X (D.starts++[size]) - 1))&&z1N ops o.op bs D.r i X (zx X (D.starts++[size]) - 1) D.recs) _=_∧_
  rw [h1,h2]
  refine ⟨_,rfl,⟨⟨T0,ha.step hi ht,hP.step hi ht,?_⟩,z4a hi hL (fun q hq=>(hD.recs q hq).1) ht rfl⟩,rfl⟩
  refine ⟨hD.r,fun q hq=>?_,fun q hq=>?_,fun q hq=>⟨Nat.lt_succ_of_lt (hD.rgs q hq).1,(hD.rgs q hq).2⟩⟩
  ·rcases List.mem_cons.1 hq with rfl | hq
   ·refine ⟨Nat.lt_succ_self _,fun o' ho'=>?_⟩
    rw [hi] at ho';cases ho'
    exact z3q ha hP _
   ·exact ⟨Nat.lt_succ_of_lt (hD.recs q hq).1,(hD.recs q hq).2⟩
  ·rcases List.mem_cons.1 hq with rfl | hq
   ·refine ⟨Nat.lt_succ_self _,fun k o t hk hne ht=>?_⟩
    have:=pair T0 _ _ _ ha hk (by have h6:i<k:=hne;omega) ht
    show z1j bs r0 i X (zx X (D.starts++[size]) - 1) k t=true
    rw [hm];exact this
   ·exact ⟨Nat.lt_succ_of_lt (hD.wrs q hq).1,(hD.wrs q hq).2⟩
end
end
end
noncomputable section
def Stay (st:List Nat) (j j':Nm):Prop:=∀ i∈st,∀ b,j i=some b→j' i=some b
theorem Stay.refl (st:List Nat) (j:Nm):Stay st j j:=fun _ _ _ h=>h
theorem Stay.trans {st:List Nat} {j j' j'':Nm} (h:Stay st j j') (k:Stay st j' j''):Stay st j j'':=fun i hi b hb=>k i hi b (h i hi b hb)
structure Left (E:Env) (st:List Nat) (S:St) (Z:Nat→Prop) (j:Nm) (F:VK) (L:VS) (T':Fr) (S':St) (N:Nat) (F':VK) (L':VS) (Z':Nat→Prop) (j':Nm):Prop where
 n:T'.n=N
 sr:SR E S' Z' j' L'
 fr:FRR E S' Z' j' F' T'
 ex:Ex S Z j S' Z' j'
 low:S'.low≤S'.size
 stay:Stay st j j'
abbrev zK:=LExit→VK→VS→Prop
section
variable (E:Env) (N:Nat) (st:List Nat)
def KInv (ks:List (Nat×Option Nat)) (j:Nm) (S:St) (D:Dr) (r0 i:Nat):Prop:=D.starts.length=i∧(∀ s∈D.starts,s≤S.size)∧r0≤S.size ∧
 ∀ k∈ks,∃ b,j k.1=some b∧Option.rec (motive:=fun _=>Prop) (b<r0) (fun m=>r0≤b∧b<S.size∧zx b D.starts=m+1) k.2
def VW (rd:Option Nat) (c:Code) (F:VK) (L:VS) (Q:zK):Prop:=∀ T S Z j,T.n=N→SR E S Z j L→FRR E S Z j F T→S.low≤S.size →
 Co E c rd T S fun r=>∃ F' L' Z' j',Left E st S Z j F L r.T r.S N F' L' Z' j'∧Q r.ex F' L'
def VO (ops:Array Oper) (rest:List Oper) (F:VK) (L:VS) (Q:VK→VS→Prop):Prop:=∀ T S Z j,T.n=N→SR E S Z j L→FRR E S Z j F T→S.low≤S.size →
 ∃ n r,(∀ m,n≤m→z4P E (run E m).call (run E m).code ops rest T S=some r)∧∃ F' L' Z' j',Left E st S Z j F L r.1 r.2 N F' L' Z' j'∧Q F' L'
def VD0 (ops:Array Oper) (bs:List Nat) (ks:List (Nat×Option Nat)) (rest:List Oper) (i:Nat) (F:VK) (L:VS) (Q:VK→VS→Prop):Prop:=∀ T S Z j D r0,T.n=N→SR E S Z j L→FRR E S Z j F T→S.low≤S.size →
 DI ops.toList bs r0 i D T→ops.toList.drop i=rest→KInv ks j S D r0 i →
 ∃ n r,(∀ m,n≤m→z4g E (run E m).call (run E m).code ops bs rest i D T S=some r)∧∃ F' L' Z' j',Left E st S Z j F L r.1 r.2 N F' L' Z' j'∧Q F' L'
def VC (f:FuncId) (args:List AV) (L:VS) (R:AV→VS→Prop):Prop:=∀ S Z j vs,SR E S Z j L→VRs E S Z j args vs→S.low≤S.size →
 ∃ n v S',(∀ m,n≤m→(run E m).call f vs S=some (v,S'))∧∃ a L' Z' j',SR E S' Z' j' L'∧VR E S' Z' j' a v∧Ex S Z j S' Z' j'∧S'.low≤S'.size∧Stay st j j'∧R a L'
end
def VP (E:Env) (f:FuncId) (args:List AV) (r:AV):Prop:=r.only (fun _=>false)=true∧VC E [] f args [] fun a L=>a=r∧L=[]
inductive KI where
 | seq (b:Code)
 | block (id:Nat)
 | inv (P:VK→VS→Prop)
section
variable {E:Env} {N:Nat} {st:List Nat} {rd:Option Nat}
def KX (E:Env) (N:Nat) (st:List Nat) (rd:Option Nat) (Q:zK):List KI→LExit→VK→VS→Prop
 | [],e,F,L=>Q e F L
 | .seq b::K,.normal,F,L=>VW E N st rd b F L (KX E N st rd Q K)
 | .seq _::K,e,F,L=>KX E N st rd Q K e F L
 | .block id::K,.exit k,F,L=>if k=id then KX E N st rd Q K .normal F L else KX E N st rd Q K (.exit k) F L
 | .block _::K,e,F,L=>KX E N st rd Q K e F L
 | .inv P::_,.normal,F,L=>P F L
 | .inv _::K,e,F,L=>KX E N st rd Q K e F L
theorem VW.mono {c:Code} {F:VK} {L:VS} {Q Q':zK} (h:VW E N st rd c F L Q) (hq:∀ e F L,Q e F L→Q' e F L):VW E N st rd c F L Q':=by
 intro T S Z j h1 h2 h3 h4
 obtain ⟨n,r,h5,F',L',Z',j',h6,h7⟩:=h T S Z j h1 h2 h3 h4
 exact ⟨n,r,h5,F',L',Z',j',h6,hq _ _ _ h7⟩
theorem Left.trans {S S1 S2:St} {Z Z1 Z2:Nat→Prop} {j j1 j2:Nm} {F F1 F2:VK} {L L1 L2:VS} {T1 T2:Fr} (h:Left E st S Z j F L T1 S1 N F1 L1 Z1 j1) (k:Left E st S1 Z1 j1 F1 L1 T2 S2 N F2 L2 Z2 j2):Left E st S Z j F L T2 S2 N F2 L2 Z2 j2 :=
 ⟨k.n,k.sr,k.fr,h.ex.trans k.ex,k.low,h.stay.trans k.stay⟩
theorem VW.seq {a b:Code} {F:VK} {L:VS} {Q:zK} (h:VW E N st rd a F L fun e F' L'=>match e with
  | .normal=>VW E N st rd b F' L' Q
  | e=>Q e F' L'):VW E N st rd (.seq a b) F L Q:=by
 intro T S Z j h1 h2 h3 h4
 obtain ⟨n,r,h5,F',L',Z',j',h6,h7⟩:=h T S Z j h1 h2 h3 h4
 cases hr:r.ex with
 | normal =>
  rw [hr] at h7
  obtain ⟨n2,r2,k1,F2,L2,Z2,j2,k2,k3⟩:=h7 r.T r.S Z' j' h6.n h6.sr h6.fr h6.low
  refine ⟨n+n2+1,r2,fun m hm=>?_,F2,L2,Z2,j2,h6.trans k2,k3⟩
  obtain ⟨k,rfl,hk⟩:=zh hm
  show ob ((run E (k+1)).code a rd T S) (fun q=>zl q ((run E (k+1)).code b rd))=_
  rw [h5 _ (by omega)]
  show zl r _=_
  unfold zl
  rw [hr]
  exact k1 _ (by omega)
 | exit id =>
  rw [hr] at h7
  refine ⟨n+1,r,fun m hm=>?_,F',L',Z',j',h6,by rw [hr];exact h7⟩
  obtain ⟨k,rfl,hk⟩:=zh hm
  show ob ((run E (k+1)).code a rd T S) (fun q=>zl q ((run E (k+1)).code b rd))=_
  rw [h5 _ (by omega)]
  show zl r _=_
  unfold zl
  rw [hr]
 | ret =>
  rw [hr] at h7
  refine ⟨n+1,r,fun m hm=>?_,F',L',Z',j',h6,by rw [hr];exact h7⟩
  obtain ⟨k,rfl,hk⟩:=zh hm
  show ob ((run E (k+1)).code a rd T S) (fun q=>zl q ((run E (k+1)).code b rd))=_
  rw [h5 _ (by omega)]
  show zl r _=_
  unfold zl
  rw [hr]
theorem VW.block {id:Nat} {b:Code} {F:VK} {L:VS} {Q:zK} (h:VW E N st rd b F L fun e F' L'=>match e with
  | .exit k=>if k=id then Q .normal F' L' else Q (.exit k) F' L'
  | e=>Q e F' L'):VW E N st rd (.block id b) F L Q:=by
 intro T S Z j h1 h2 h3 h4
 obtain ⟨n,r,h5,F',L',Z',j',h6,h7⟩:=h T S Z j h1 h2 h3 h4
 have go:∀ k,n≤k→(run E (k+1)).code (.block id b) rd T S=z8r id r:=fun k hk=>by
  show ob ((run E (k+1)).code b rd T S) (z8r id)=_
  rw [h5 _ (by omega)];rfl
 obtain ⟨ex,T1,S1⟩:=r
 cases ex with
 | normal=>exact ⟨n+1,_,fun m hm=>by obtain ⟨k,rfl,hk⟩:=zh hm;exact go k hk,F',L',Z',j',h6,h7⟩
 | ret=>exact ⟨n+1,_,fun m hm=>by obtain ⟨k,rfl,hk⟩:=zh hm;exact go k hk,F',L',Z',j',h6,h7⟩
 | exit k0 =>
  refine ⟨n+1,⟨bf (Nat.beq k0 id) .normal (.exit k0),T1,S1⟩,fun m hm=>by obtain ⟨k,rfl,hk⟩:=zh hm;exact go k hk,F',L',Z',j',h6,?_⟩
  by_cases e:k0=id
  ·subst e
   simp only [if_pos] at h7
   rw [Nat.beq_refl];exact h7
  ·simp only [if_neg e] at h7
   rw [z0B e];exact h7
theorem z3f {T:Fr} {S:St} {Z:Nat→Prop} {j:Nm} {F:VK} {L:VS} (h1:T.n=N) (h2:SR E S Z j L) (h3:FRR E S Z j F T) (h4:S.low≤S.size):Left E st S Z j F L T S N F L Z j :=
 ⟨h1,h2,h3,Ex.refl _ _ _,h4,Stay.refl _ _⟩
theorem VW.skip {F:VK} {L:VS} {Q:zK} (h:Q .normal F L):VW E N st rd .skip F L Q:=fun T S Z j h1 h2 h3 h4 =>
 ⟨1,⟨.normal,T,S⟩,fun m hm=>by obtain ⟨k,rfl,_⟩:=zh hm;rfl,F,L,Z,j,z3f h1 h2 h3 h4,h⟩
theorem VW.ret {F:VK} {L:VS} {Q:zK} (h:Q .ret F L):VW E N st rd .ret F L Q:=fun T S Z j h1 h2 h3 h4 =>
 ⟨1,⟨.ret,T,S⟩,fun m hm=>by obtain ⟨k,rfl,_⟩:=zh hm;rfl,F,L,Z,j,z3f h1 h2 h3 h4,h⟩
theorem VW.exit {id:Nat} {F:VK} {L:VS} {Q:zK} (h:Q (.exit id) F L):VW E N st rd (.exit id) F L Q:=fun T S Z j h1 h2 h3 h4 =>
 ⟨1,⟨.exit id,T,S⟩,fun m hm=>by obtain ⟨k,rfl,_⟩:=zh hm;rfl,F,L,Z,j,z3f h1 h2 h3 h4,h⟩
theorem VW.cond {c:Operand} {a b:Code} {F:VK} {L:VS} {Q:zK} {t:Bool} (hc:av F c=some (.p (.bool t))) (k1:t=true→VW E N st rd a F L Q) (k2:t=false→VW E N st rd b F L Q):VW E N st rd (.cond c a b) F L Q:=by
 intro T S Z j h1 h2 h3 h4
 obtain ⟨v,hv,hvr⟩:=h3.ev hc
 cases hvr with
 | p hvr =>
  cases hvr
  have go:∀ k,(run E (k+1)).code (.cond c a b) rd T S=bf t ((run E (k+1)).code a rd T S) ((run E (k+1)).code b rd T S):=fun k=>by
   show ob (ob (T.ev c) z3l) _=_
   rw [hv];rfl
  cases t with
  | true =>
   obtain ⟨n,r,h5,h6⟩:=k1 rfl T S Z j h1 h2 h3 h4
   refine ⟨n+1,r,fun m hm=>?_,h6⟩
   obtain ⟨k,rfl,hk⟩:=zh hm
   rw [go];exact h5 _ (by omega)
  | false =>
   obtain ⟨n,r,h5,h6⟩:=k2 rfl T S Z j h1 h2 h3 h4
   refine ⟨n+1,r,fun m hm=>?_,h6⟩
   obtain ⟨k,rfl,hk⟩:=zh hm
   rw [go];exact h5 _ (by omega)
theorem VW.region {id:Nat} {ops:Array Oper} {F:VK} {L:VS} {Q:zK} (h:VO E N st ops ops.toList F L fun F' L'=>Q .normal F' L'):VW E N st rd (.region id ops false) F L Q:=by
 intro T S Z j h1 h2 h3 h4
 obtain ⟨n,r,h5,F',L',Z',j',h6,h7⟩:=h T S Z j h1 h2 h3 h4
 refine ⟨n+1,⟨.normal,r.1,r.2⟩,fun m hm=>?_,F',L',Z',j',h6,h7⟩
 obtain ⟨k,rfl,hk⟩:=zh hm
 show ob (z4P E (run E k).call (run E k).code ops ops.toList T S) zhF=_
 rw [h5 _ hk];rfl
def zaN:VB→Bool
 | .acc _ _ _ _=>true
 | .oarr _ _ _ _ _=>true
 | _=>false
theorem zej {vb:VB} (h:zaN vb=false):¬ vb.void:=by cases vb <;> first | exact id | cases h
def ksL (L:VS):VS→List (Nat×Option Nat)
 | []=>[]
 | (k,_)::l=>match bk L k with
  | some v=>bif zaN v then ksL L l else (k,none)::ksL L l
  | none=>ksL L l
theorem zaL {L:VS}:∀ {l:VS} {k:Nat×Option Nat},k∈ksL L l→k.2=none∧∃ v,bk L k.1=some v∧zaN v=false
 | [],k,h=>by cases h
 | (k0,_)::l,k,h=>by
  simp only [ksL] at h
  split at h
  ·rename_i v hv
   cases ha:zaN v with
   | true=>rw [ha] at h;exact zaL h
   | false =>
    rw [ha] at h
    rcases List.mem_cons.1 h with rfl | h
    ·exact ⟨rfl,v,hv,ha⟩
    ·exact zaL h
  ·exact zaL h
theorem VW.draw {id:Nat} {ops:Array Oper} {F:VK} {L:VS} {Q:zK} (h:VD0 E N st ops (z4M ops.toList []) (ksL L L) ops.toList 0 F L fun F' L'=>Q .normal F' L'):VW E N st rd (.region id ops true) F L Q:=by
 intro T S Z j h1 h2 h3 h4
 obtain ⟨n,r,h5,F',L',Z',j',h6,h7⟩:=h T S Z j ⟨S.size,[],[],[],[]⟩ S.size h1 h2 h3 h4 zla rfl ⟨rfl,(fun s h=>by cases h),ym _,fun k hk=>by
  obtain ⟨k0,k1⟩:=k
  obtain ⟨hk0,vb,hv,ha⟩:=zaL hk
  have hk0:k1=none:=hk0
  subst hk0
  obtain ⟨b,hb,_⟩:=h2.blk _ vb hv (zej ha)
  exact ⟨b,hb,(h2.jlt _ b hb).1⟩⟩
 refine ⟨n+1,⟨.normal,r.1,r.2⟩,fun m hm=>?_,F',L',Z',j',h6,h7⟩
 obtain ⟨k,rfl,hk⟩:=zh hm
 show ob (z4g E (run E k).call (run E k).code ops (z4M ops.toList []) ops.toList 0 ⟨S.size,[],[],[],[]⟩ T S) zhF=_
 rw [h5 _ hk];rfl
theorem VO.nil {ops:Array Oper} {F:VK} {L:VS} {Q:VK→VS→Prop} (h:Q F L):VO E N st ops [] F L Q:=fun T S Z j h1 h2 h3 h4 =>
 ⟨0,(T,S),fun _ _=>rfl,F,L,Z,j,z3f h1 h2 h3 h4,h⟩
theorem VD0.nil {ops:Array Oper} {bs:List Nat} {ks:List (Nat×Option Nat)} {i:Nat} {F:VK} {L:VS} {Q:VK→VS→Prop} (h:Q F L):VD0 E N st ops bs ks [] i F L Q:=fun T S Z j _ _ h1 h2 h3 h4 _ _ _ =>
 ⟨0,(T,S),fun _ _=>rfl,F,L,Z,j,z3f h1 h2 h3 h4,h⟩
def zL (d:Option Tmp) (a:AV) (F:VK):VK:=match d with
 | none=>F
 | some d=>(d,a)::F
theorem z0I {T:Fr} {S:St} {Z:Nat→Prop} {j:Nm} {F:VK} {d:Option Tmp} {a:AV} {v:Value} (hN:T.n=N) (hF:FRR E S Z j F T) (hd:zI d N=true) (hv:VR E S Z j a v):∃ T',T.put d v=some T'∧T'.n=N∧FRR E S Z j (zL d a F) T':=by
 cases d with
 | none=>exact ⟨T,rfl,hN,hF⟩
 | some d =>
  obtain ⟨T',h1,h2,h3⟩:=hF.put (d:=d) (by rw [hN];exact hd) hv
  exact ⟨T',h1,h2.trans hN,h3⟩
def vgd (ops:Array Oper) (F:VK):Option (Nat×Bool)→Option Bool
 | none=>some true
 | some g=>match ops.toList[g.1]? with
  | none=>some false
  | some o=>match o.dst with
   | none=>some false
   | some d=>match ak F d with
    | some (.p (.bool c))=>some (c==g.2)
    | some (.lit c)=>some (c==g.2)
    | some (.tup _)=>some false
    | _=>none
theorem z1r {T:Fr} {S:St} {Z:Nat→Prop} {j:Nm} {ops:Array Oper} {F:VK} {g:Option (Nat×Bool)} {b:Bool} (h:vgd ops F g=some b) (hF:FRR E S Z j F T):z7W ops T g=some b:=by
 cases g with
 | none=>exact h
 | some g =>
  simp only [vgd] at h
  show z7X ops T g=some b
  unfold z7X
  cases ho:ops.toList[g.1]? with
  | none=>rw [ho] at h;cases h;rfl
  | some o =>
   rw [ho] at h
   simp only at h
   change Option.rec (motive:=fun _=>Option Bool) (some false) (fun d=>ob (T.t.get d) fun v=>some (Option.rec false (fun b=>b==g.2) (z3l v))) o.dst=_
   cases hd:o.dst with
   | none=>rw [hd] at h;cases h;rfl
   | some d =>
    rw [hd] at h
    simp only at h
    split at h
    ·rename_i c hc
     cases h
     obtain ⟨v,h1,h2⟩:=hF d _ hc
     cases h2 with
     | p h2 =>
      cases h2
      show ob (T.t.get d) _=_
      rw [h1];rfl
    ·rename_i c hc
     cases h
     obtain ⟨v,h1,h2⟩:=hF d _ hc
     cases h2
     show ob (T.t.get d) _=_
     rw [h1];rfl
    ·rename_i c hc
     cases h
     obtain ⟨v,h1,h2⟩:=hF d _ hc
     cases h2
     show ob (T.t.get d) _=_
     rw [h1];rfl
    ·cases h
theorem zi0 {tb:Tab} {ops:Array Oper} {o:Oper} {F:VK} {L:VS} {obs:List Prop} {a:AV} (hT:zM E tb=true) (hg:vgd ops F o.guard=some true) (hd:zI o.dst N=true) (h:zmx tb F L o.op=some (obs,a)) (ho:∀ P∈obs,P)
  {T:Fr} {S:St} {Z:Nat→Prop} {j:Nm} (h1:T.n=N) (h2:SR E S Z j L) (h3:FRR E S Z j F T):∃ T',(∀ cF dF,zq E cF dF ops o T S=some (T',S))∧T'.n=N∧FRR E S Z j (zL o.dst a F) T':=by
 obtain ⟨u,h5,h6⟩:=zmw hT h ho h2 h3
 obtain ⟨T',h7,h8,h9⟩:=z0I h1 h3 hd h6
 refine ⟨T',fun cF dF=>?_,h8,h9⟩
 unfold zq
 rw [z1r hg h3]
 show ob (zR E cF dF T S o.op) (z3P T o.dst)=_
 rw [h5]
 show ob (T.put o.dst u) _=_
 rw [h7];rfl
theorem zi1 {ops:Array Oper} {o:Oper} {F:VK} {L:VS} (hg:vgd ops F o.guard=some false) (hd:zI o.dst N=true)
  {T:Fr} {S:St} {Z:Nat→Prop} {j:Nm} (h1:T.n=N) (h3:FRR E S Z j F T):∃ T',(∀ cF dF,zq E cF dF ops o T S=some (T',S))∧T'.n=N∧FRR E S Z j (zL o.dst (.tup []) F) T':=by
 obtain ⟨T',h7,h8,h9⟩:=z0I h1 h3 hd (a:=.tup []) (v:=undef) (.tup (ws:=#[]) .nil)
 refine ⟨T',fun cF dF=>?_,h8,h9⟩
 unfold zq
 rw [z1r hg h3]
 show ob (T.put o.dst undef) _=_
 rw [h7];rfl
theorem zbR {tb:Tab} {ops:Array Oper} {o:Oper} {F:VK} {L:VS} {z:Bool} {out:VOut} (hT:zM E tb=true) (hg:vgd ops F o.guard=some true) (hd:zI o.dst N=true) (h:zgH tb F L z o.op=some out) (ho:∀ P∈out.ob,P)
  {T:Fr} {S:St} {Z:Nat→Prop} {j:Nm} (h1:T.n=N) (h2:SR E S Z j L) (h3:FRR E S Z j F T):∃ T' S' Z' j',(∀ cF dF,zq E cF dF ops o T S=some (T',S'))∧T'.n=N∧SR E S' Z' j' out.L∧FRR E S' Z' j' (zL o.dst out.a out.F) T'∧Ex S Z j S' Z' j' ∧
   (S.low≤S.size→S'.low≤S'.size)∧(out.kind=0→S'.low=S.low)∧(out.kind=1→∃ b,j out.at_=some b∧storeAt T o.op=some b∧∃ x,S'=S.put b x)∧(∀ i b,j i=none→j' i=some b→S.size≤b)∧∀ i b,(out.kind=2→i≠out.at_)→j i=some b→j' i=some b:=by
 obtain ⟨u,S',Z',j',h5,h6,h7,h8,h9,h10,h11,h12,h14,h13⟩:=zmv hT h ho h2 h3
 obtain ⟨T',k1,k2,k3⟩:=z0I h1 h7 hd h8
 refine ⟨T',S',Z',j',fun cF dF=>?_,k2,h6,k3,h9,h10,h11,h12,h14,h13⟩
 unfold zq
 rw [z1r hg h3]
 show ob (zR E cF dF T S o.op) (z3P T o.dst)=_
 rw [h5]
 show ob (T.put o.dst u) _=_
 rw [k1];rfl
theorem VO.keep {tb:Tab} {ops:Array Oper} {o:Oper} {rest:List Oper} {F:VK} {L:VS} {Q:VK→VS→Prop} {obs:List Prop} {a:AV} (hT:zM E tb=true) (hg:vgd ops F o.guard=some true) (hd:zI o.dst N=true) (h:zmx tb F L o.op=some (obs,a)) (ho:∀ P∈obs,P)
  (hk:VO E N st ops rest (zL o.dst a F) L Q):VO E N st ops (o::rest) F L Q:=by
 intro T S Z j h1 h2 h3 h4
 obtain ⟨T',h5,h6,h7⟩:=zi0 hT hg hd h ho h1 h2 h3
 obtain ⟨n,r,h8,F2,L2,Z2,j2,h9,h10⟩:=hk T' S Z j h6 h2 h7 h4
 refine ⟨n,r,fun m hm=>?_,F2,L2,Z2,j2,⟨h9.n,h9.sr,h9.fr,h9.ex,h9.low,h9.stay⟩,h10⟩
 show ob (zq E _ _ ops o T S) _=_
 rw [h5]
 exact h8 m hm
theorem VO.drop {ops:Array Oper} {o:Oper} {rest:List Oper} {F:VK} {L:VS} {Q:VK→VS→Prop} (hg:vgd ops F o.guard=some false) (hd:zI o.dst N=true)
  (hk:VO E N st ops rest (zL o.dst (.tup []) F) L Q):VO E N st ops (o::rest) F L Q:=by
 intro T S Z j h1 h2 h3 h4
 obtain ⟨T',h5,h6,h7⟩:=zi1 (E:=E) (L:=L) hg hd h1 h3
 obtain ⟨n,r,h8,F2,L2,Z2,j2,h9,h10⟩:=hk T' S Z j h6 h2 h7 h4
 refine ⟨n,r,fun m hm=>?_,F2,L2,Z2,j2,⟨h9.n,h9.sr,h9.fr,h9.ex,h9.low,h9.stay⟩,h10⟩
 show ob (zq E _ _ ops o T S) _=_
 rw [h5]
 exact h8 m hm
theorem VO.make {tb:Tab} {ops:Array Oper} {o:Oper} {rest:List Oper} {F:VK} {L:VS} {Q:VK→VS→Prop} {z:Bool} {out:VOut} (hT:zM E tb=true) (hg:vgd ops F o.guard=some true) (hd:zI o.dst N=true) (h:zgH tb F L z o.op=some out) (ho:∀ P∈out.ob,P)
  (hst:Nat.beq out.kind 2=true→(st.all fun i=>!Nat.beq i out.at_)=true) (hk:VO E N st ops rest (zL o.dst out.a out.F) out.L Q):VO E N st ops (o::rest) F L Q:=by
 intro T S Z j h1 h2 h3 h4
 obtain ⟨T',S',Z',j',h5,h6,h7,h8,h9,h10,_,_,_,h13⟩:=zbR hT hg hd h ho h1 h2 h3
 obtain ⟨n,r,k1,F2,L2,Z2,j2,k2,k3⟩:=hk T' S' Z' j' h6 h7 h8 (h10 h4)
 refine ⟨n,r,fun m hm=>?_,F2,L2,Z2,j2,⟨k2.n,k2.sr,k2.fr,h9.trans k2.ex,k2.low,Stay.trans (fun i hi b hb=>h13 i b (fun hk e=>?_) hb) k2.stay⟩,k3⟩
 ·show ob (zq E _ _ ops o T S) _=_
  rw [h5]
  exact k1 m hm
 ·have:=List.all_eq_true.1 (hst (by rw [hk];rfl)) i hi
  rw [e,Nat.beq_refl] at this;cases this
theorem SR.at0 {S:St} {Z:Nat→Prop} {j:Nm} {L:VS} (h:SR E S Z j L):SR E S.at0 Z j L :=
 ⟨h.zlt,h.jlt,h.inj,h.dom,fun i vb hi=>by
  rcases h.blk' i vb hi with hv | ⟨b,h1,h2⟩
  ·exact .inl hv
  exact .inr ⟨b,h1,h2.mono rfl (fun b hb=>⟨hb,rfl⟩) (fun _ _ h=>h)⟩,h.rom⟩
theorem FRR.at0 {S:St} {Z:Nat→Prop} {j:Nm} {F:VK} {T:Fr} (h:FRR E S Z j F T):FRR E S.at0 Z j F T:=h.mono' (fun b hb=>⟨hb,rfl⟩) (fun _ _ h=>h)
theorem SR.back {S S1:St} {Z:Nat→Prop} {j:Nm} {L:VS} (h:SR E S1 Z j L):SR E (S.back S1) Z j L :=
 ⟨h.zlt,h.jlt,h.inj,h.dom,fun i vb hi=>by
  rcases h.blk' i vb hi with hv | ⟨b,h1,h2⟩
  ·exact .inl hv
  exact .inr ⟨b,h1,h2.mono rfl (fun b hb=>⟨hb,rfl⟩) (fun _ _ h=>h)⟩,h.rom⟩
theorem FRR.back {S S1:St} {Z:Nat→Prop} {j:Nm} {F:VK} {T:Fr} (h:FRR E S1 Z j F T):FRR E (S.back S1) Z j F T:=h.mono' (fun b hb=>⟨hb,rfl⟩) (fun _ _ h=>h)
theorem Ex.back {S S1:St} {Z Z1:Nat→Prop} {j j1:Nm} (h:Ex S.at0 Z j S1 Z1 j1):Ex S Z j (S.back S1) Z1 j1 :=
 ⟨h.size,h.old,h.zz,h.zn,h.jn,Nat.min_le_left _ _,fun m h1 h2 h3=>Nat.le_min.2 ⟨h1,h.low.2 m h2 h2 h3⟩⟩
theorem zfw {S:St} (hl:S.low≤S.size):S.back S.at0=S:=by
 cases S;simp only [St.back,St.at0,St.mk.injEq,true_and];exact Nat.min_eq_left hl
theorem z4S {ops:List Oper} {i:Nat} {o:Oper} {rest:List Oper} (h:ops.drop i=o::rest):ops[i]? = some o∧ops.drop (i+1)=rest:=by
 constructor
 ·have:=congrArg (·[0]?) h
  simpa [List.getElem?_drop] using this
 ·have:=congrArg (List.drop 1) h
  simpa [List.drop_drop] using this
theorem KInv.step {ks:List (Nat×Option Nat)} {j j':Nm} {S S':St} {D D':Dr} {r0 i:Nat} (h:KInv ks j S D r0 i) (hd:D'.starts=D.starts++[S.size]) (hs:S.size≤S'.size) (hj:∀ k b,j k=some b→j' k=some b):KInv ks j' S' D' r0 (i+1):=by
 obtain ⟨h1,h2,h3,h4⟩:=h
 refine ⟨by rw [hd,List.length_append,h1];rfl,fun s hm=>?_,yn h3 hs,fun k hk=>?_⟩
 ·rw [hd] at hm
  rcases List.mem_append.1 hm with hm | hm
  ·exact yn (h2 s hm) hs
  ·rw [List.mem_singleton.1 hm];exact hs
 ·obtain ⟨b,k1,k2⟩:=h4 k hk
  refine ⟨b,hj _ _ k1,?_⟩
  obtain ⟨n,m⟩:=k
  cases m with
  | none=>exact k2
  | some m =>
   obtain ⟨k3,k4,k5⟩:=k2
   exact ⟨k3,yo k4 hs,by rw [hd,z4w k4];exact k5⟩
theorem KInv.made {ks:List (Nat×Option Nat)} {j j':Nm} {S S':St} {D D':Dr} {r0 i n b:Nat} (h:KInv ks j S D r0 i) (hd:D'.starts=D.starts++[S.size]) (hs:S.size≤S'.size) (hj:∀ k b,j k=some b→j' k=some b) (hn:j' n=some b) (hb:S.size≤b) (hb2:b<S'.size):KInv ((n,some i)::ks) j' S' D' r0 (i+1):=by
 obtain ⟨h1,h2,h3,h4⟩:=h.step hd hs hj
 refine ⟨h1,h2,h3,fun k hk=>?_⟩
 rcases List.mem_cons.1 hk with rfl | hk
 ·refine ⟨b,hn,yn h.2.2.1 hb,hb2,?_⟩
  rw [z5f,h1]
  intro s hs'
  rw [hd] at hs'
  rcases List.mem_append.1 hs' with hm | hm
  ·exact yn (h.2.1 s hm) hb
  ·rw [List.mem_singleton.1 hm];exact hb
 ·exact h4 k hk
theorem VD0.keep {tb:Tab} {ops:Array Oper} {bs:List Nat} {ks:List (Nat×Option Nat)} {i:Nat} {o:Oper} {rest:List Oper} {F:VK} {L:VS} {Q:VK→VS→Prop} {obs:List Prop} {a:AV} (hT:zM E tb=true) (hg:vgd ops F o.guard=some true) (hd:zI o.dst N=true) (h:zmx tb F L o.op=some (obs,a)) (ho:∀ P∈obs,P)
  (hk:VD0 E N st ops bs ks rest (i+1) (zL o.dst a F) L Q):VD0 E N st ops bs ks (o::rest) i F L Q:=by
 intro T S Z j D r0 h1 h2 h3 h4 hD hi hks
 obtain ⟨hi1,hi2⟩:=z4S hi
 obtain ⟨T',h5,h6,h7⟩:=zi0 hT hg hd h ho h1 h2.at0 h3.at0
 obtain ⟨n,r,h8,F2,L2,Z2,j2,h9,h10⟩:=hk T' S Z j _ r0 h6 h2 (h7.mono' (fun b hb=>⟨hb,rfl⟩) (fun _ _ h=>h)) h4 (z0U (size:=S.size) hi1 hD (z1L (h5 (run E 0).call (run E 0).code))) hi2 (hks.step rfl (ym _) fun _ _ h=>h)
 refine ⟨n,r,fun m hm=>?_,F2,L2,Z2,j2,⟨h9.n,h9.sr,h9.fr,h9.ex,h9.low,h9.stay⟩,h10⟩
 show ob (zq E _ _ ops o T S.at0) _=_
 rw [h5]
 show ob (z0s ops bs i T S.size S.size o.op D) (fun D'=>z4g E _ _ ops bs rest (i+1) D' T' (S.back S.at0))=_
 rw [z2j hi1 hD (.inl (ym _)),zfw h4]
 exact h8 m hm
theorem VD0.drop {ops:Array Oper} {bs:List Nat} {ks:List (Nat×Option Nat)} {i:Nat} {o:Oper} {rest:List Oper} {F:VK} {L:VS} {Q:VK→VS→Prop} (hg:vgd ops F o.guard=some false) (hd:zI o.dst N=true)
  (hk:VD0 E N st ops bs ks rest (i+1) (zL o.dst (.tup []) F) L Q):VD0 E N st ops bs ks (o::rest) i F L Q:=by
 intro T S Z j D r0 h1 h2 h3 h4 hD hi hks
 obtain ⟨hi1,hi2⟩:=z4S hi
 obtain ⟨T',h5,h6,h7⟩:=zi1 (E:=E) (L:=L) hg hd h1 h3.at0
 obtain ⟨n,r,h8,F2,L2,Z2,j2,h9,h10⟩:=hk T' S Z j _ r0 h6 h2 (h7.mono' (fun b hb=>⟨hb,rfl⟩) (fun _ _ h=>h)) h4 (z0U (size:=S.size) hi1 hD (z1L (h5 (run E 0).call (run E 0).code))) hi2 (hks.step rfl (ym _) fun _ _ h=>h)
 refine ⟨n,r,fun m hm=>?_,F2,L2,Z2,j2,⟨h9.n,h9.sr,h9.fr,h9.ex,h9.low,h9.stay⟩,h10⟩
 show ob (zq E _ _ ops o T S.at0) _=_
 rw [h5]
 show ob (z0s ops bs i T S.size S.size o.op D) (fun D'=>z4g E _ _ ops bs rest (i+1) D' T' (S.back S.at0))=_
 rw [z2j hi1 hD (.inl (ym _)),zfw h4]
 exact h8 m hm
def zof (F:VK) (b:Nat):Op→Bool
 | .call c=>match c.callee,avs F c.args.toList with
  | .builtin .append,some [.sl k _ _ _ _ _,.p (.lst _ _ _ _)]=>Nat.beq k b
  | _,_=>false
 | _=>false
theorem zlw {F:VK} {T:Fr} {S:St} {Z:Nat→Prop} {j:Nm} {b:Nat} {o:Op} (h:zof F b o=true) (hF:FRR E S Z j F T):∃ b',j b=some b'∧storeAt T o=some b':=by
 unfold zof at h
 split at h
 ·rename_i c
  split at h
  ·rename_i k _ _ _ _ _ _ _ _ _ hc ha
   have:=zm h;subst this
   obtain ⟨vs,h1,h2⟩:=hF.evs ha
   cases h2 with
   | cons h3 h4 =>
    cases h4 with
    | cons h5 h6 =>
     cases h6
     cases h3 with
     | sl hj =>
      refine ⟨_,hj,?_⟩
      show z0Z T c=_
      unfold z0Z
      rw [hc,h1]
      cases h5 with
      | p h5=>cases h5 <;> rfl
  ·cases h
 ·cases h
noncomputable def z7E (ops:Array Oper) (bs:List Nat) (ks:List (Nat×Option Nat)) (i:Nat) (F:VK) (o:Op) (out:VOut):Bool :=
 Nat.beq out.kind 0||(uni bs i||((Nat.beq out.kind 1||Nat.beq out.kind 2&&zof F out.at_ o)&&ks.any (fun k=>Nat.beq k.1 out.at_&&Option.rec (motive:=fun _=>Bool) (zpO bs ops.toList F out.at_ i) (fun m=>zb5 bs ops.toList F out.at_ i m&&((bs[i]?).getD 0).testBit m) k.2)))
def zit (L:VS):VS→Bool
 | (n,_)::_=>Nat.beq n (nx L)
 | []=>false
def hdN:VS→Nat
 | (n,_)::_=>n
 | []=>0
def hdA:VS→Bool
 | (_,v)::_=>zaN v
 | []=>false
def ks2 (ks:List (Nat×Option Nat)) (kind at_:Nat):List (Nat×Option Nat):=bif Nat.beq kind 2 then ks.filter (fun k=>!Nat.beq k.1 at_) else ks
def zkU (ks:List (Nat×Option Nat)) (kind at_:Nat) (L L':VS) (i:Nat):List (Nat×Option Nat):=bif zit L L' && !hdA L' then (hdN L',some i)::ks2 ks kind at_ else ks2 ks kind at_
theorem VD0.make {tb:Tab} {ops:Array Oper} {bs:List Nat} {ks:List (Nat×Option Nat)} {i:Nat} {o:Oper} {rest:List Oper} {F:VK} {L:VS} {Q:VK→VS→Prop} {z:Bool} {out:VOut} (hT:zM E tb=true) (hg:vgd ops F o.guard=some true) (hd:zI o.dst N=true) (h:zgH tb F L z o.op=some out) (ho:∀ P∈out.ob,P)
  (hst:Nat.beq out.kind 2=true→(st.all fun i=>!Nat.beq i out.at_)=true) (hw:z7E ops bs ks i F o.op out=true) (hk:VD0 E N st ops bs (zkU ks out.kind out.at_ L out.L i) rest (i+1) (zL o.dst out.a out.F) out.L Q):VD0 E N st ops bs ks (o::rest) i F L Q:=by
 intro T S Z j D r0 h1 h2 h3 h4 hD hi hks
 obtain ⟨hi1,hi2⟩:=z4S hi
 obtain ⟨T',S',Z',j',h5,h6,h7,h8,h9,h10,h11,h12,h14,h13⟩:=zbR hT hg hd h ho h1 h2.at0 h3.at0
 have hlow:=h10 (ym _)
 have hst1:=z1L (h5 (run E 0).call (run E 0).code)
 have hdr:∃ D',z0s ops bs i T S.size S'.low o.op D=some D'∧DI ops.toList bs r0 (i+1) D' T'∧D'.starts=D.starts++[S.size]:=by
  unfold z7E at hw
  simp only [Bool.or_eq_true] at hw
  rcases hw with hw | hw | hw
  ·refine ⟨_,z2j hi1 hD (.inl ?_),z0U hi1 hD hst1,rfl⟩
   rw [h11 (zm hw)];exact ym _
  ·exact ⟨_,z2j hi1 hD (.inr hw),z0U hi1 hD hst1,rfl⟩
  ·rw [yw] at hw
   obtain ⟨w1,w2⟩:=hw
   have:∃ b,j out.at_=some b∧storeAt T o.op=some b:=by
    rw [Bool.or_eq_true] at w1
    rcases w1 with w1 | w1
    ·obtain ⟨b,b1,b2,_⟩:=h12 (zm w1);exact ⟨b,b1,b2⟩
    ·rw [yw] at w1
     exact zlw w1.2 h3
   obtain ⟨b,b1,b2⟩:=this
   obtain ⟨k,hk1,hk2⟩:=List.any_eq_true.1 w2
   rw [yw] at hk2
   obtain ⟨hk2,w3⟩:=hk2
   have:=zm hk2
   obtain ⟨b',hb1,hb2⟩:=hks.2.2.2 _ hk1
   rw [this,b1] at hb1;cases hb1
   obtain ⟨n0,m0⟩:=k
   cases m0 with
   | none=>exact znX h2 h3 b1 hi1 hD hst1 b2 hb2 w3
   | some m =>
    obtain ⟨g1,g2,g3⟩:=hb2
    have w3:(zb5 bs ops.toList F out.at_ i m&&((bs[i]?).getD 0).testBit m)=true:=w3
    rw [yw] at w3
    exact znW h2 h3 b1 hi1 hD hst1 b2 g1 (by rw [z4w g2];exact g3) w3.1 w3.2
 obtain ⟨D',d1,d2,d3⟩:=hdr
 have hks0:KInv (ks2 ks out.kind out.at_) j' (S.back S') D' r0 (i+1):=by
  obtain ⟨s1,s2,s3,s4⟩:=hks
  refine ⟨by rw [d3,List.length_append,s1];rfl,fun s hm=>?_,yn s3 h9.size,fun k hk=>?_⟩
  ·rw [d3] at hm
   rcases List.mem_append.1 hm with hm | hm
   ·exact yn (s2 s hm) h9.size
   ·rw [List.mem_singleton.1 hm];exact h9.size
  ·have hk':k∈ks∧(out.kind=2→k.1≠out.at_):=by
    unfold ks2 at hk
    cases h2k:Nat.beq out.kind 2 with
    | true =>
     rw [h2k] at hk
     obtain ⟨q1,q2⟩:=List.mem_filter.1 hk
     refine ⟨q1,fun _ e=>?_⟩
     rw [e,Nat.beq_refl] at q2;cases q2
    | false=>rw [h2k] at hk;exact ⟨hk,fun e=>by rw [e] at h2k;cases h2k⟩
   obtain ⟨b,k1,k2⟩:=s4 k hk'.1
   refine ⟨b,h13 _ _ hk'.2 k1,?_⟩
   obtain ⟨n,m⟩:=k
   cases m with
   | none=>exact k2
   | some m =>
    obtain ⟨k3,k4,k5⟩:=k2
    exact ⟨k3,yo k4 h9.size,by rw [d3,z4w k4];exact k5⟩
 have hks':KInv (zkU ks out.kind out.at_ L out.L i) j' (S.back S') D' r0 (i+1):=by
  unfold zkU
  cases hnw:(zit L out.L && !hdA out.L) with
  | false=>exact hks0
  | true =>
   simp only [cond_true]
   rw [yw] at hnw
   obtain ⟨hnw,hna⟩:=hnw
   cases hL:out.L with
   | nil=>rw [hL] at hnw;cases hnw
   | cons p l =>
    obtain ⟨n0,v0⟩:=p
    rw [hL] at hnw hna
    have:=zm hnw;subst this
    show KInv ((nx L,some i)::ks2 ks out.kind out.at_) j' (S.back S') D' r0 (i+1)
    obtain ⟨b,hb1,_⟩:=h7.blk (nx L) v0 (by rw [hL,zA,if_pos rfl]) (zej (by change (!zaN v0)=true at hna;simpa using hna))
    have hb:S.size≤b:=h14 _ _ (h2.dom (nx L) (by
     cases hbk:bk L (nx L) with
     | none=>rfl
     | some v=>exact absurd (zg5 hbk) (Nat.lt_irrefl _))) hb1
    obtain ⟨s1,s2,s3,s4⟩:=hks0
    refine ⟨s1,s2,s3,fun k hk=>?_⟩
    rcases List.mem_cons.1 hk with rfl | hk
    ·refine ⟨b,hb1,yn hks.2.2.1 hb,(h7.jlt _ _ hb1).1,?_⟩
     rw [z5f,d3,List.length_append,hks.1]
     ·rfl
     ·intro s hs'
      rw [d3] at hs'
      rcases List.mem_append.1 hs' with hm | hm
      ·exact yn (hks.2.1 s hm) hb
      ·rw [List.mem_singleton.1 hm];exact hb
    ·exact s4 k hk
 obtain ⟨n,r,k1,F2,L2,Z2,j2,k2,k3⟩:=hk T' (S.back S') Z' j' D' r0 h6 h7.back h8.back (z1P hlow) d2 hi2 hks'
 refine ⟨n,r,fun m hm=>?_,F2,L2,Z2,j2,⟨k2.n,k2.sr,k2.fr,h9.back.trans k2.ex,k2.low,Stay.trans (fun i hi b hb=>h13 i b (fun hk e=>?_) hb) k2.stay⟩,k3⟩
 ·show ob (zq E _ _ ops o T S.at0) _=_
  rw [h5]
  show ob (z0s ops bs i T S.size S'.low o.op D) _=_
  rw [d1]
  exact k1 m hm
 ·have:=List.all_eq_true.1 (hst (by rw [hk];rfl)) i hi
  rw [e,Nat.beq_refl] at this;cases this
end
end
noncomputable section
def pl:List (Nat×Nat)→Nat→Option Nat
 | [],_=>none
 | (k,i)::l,x=>bif Nat.beq k x then some i else pl l x
def rnk:List (Nat×Nat)→Nat→Nat
 | [],x=>x
 | (k,i)::l,x=>bif Nat.beq i x then k else rnk l x
def olds (ps:List (Nat×Nat)) (x:Nat):Bool:=ps.any fun p=>Nat.beq p.2 x
def news (ps:List (Nat×Nat)) (x:Nat):Bool:=ps.any fun p=>Nat.beq p.1 x
def zbI:List (Nat×Nat)→Bool
 | []=>true
 | (k,i)::l=>!news l k&&(!olds l i&&zbI l)
def zq8 (r:Nat→Nat):VK→VK
 | []=>[]
 | (x,a)::l=>(x,a.ren r)::zq8 r l
def z2Q (g:Nat→Bool):VK→Bool
 | []=>true
 | (_,a)::l=>a.only g&&z2Q g l
theorem zjD {r:Nat→Nat} {g:Nat→Bool}:∀ {F:VK} {t:Nat} {a:AV},ak (zq8 r F) t=some a→z2Q g F=true→∃ a0,ak F t=some a0∧a=a0.ren r∧a0.only g=true
 | [],t,a,h,_=>by cases h
 | (x,a0)::l,t,a,h,ho=>by
  simp only [z2Q,yw] at ho
  simp only [zq8,ak] at h ⊢
  cases hb:Nat.beq x t with
  | true =>
   rw [hb] at h
   simp only [cond_true,Option.some.injEq] at h ⊢
   exact ⟨a0,rfl,h.symm,ho.1⟩
  | false =>
   rw [hb] at h
   simp only [cond_false] at h ⊢
   exact zjD h ho.2
def zn6 (r:Nat→Nat):List (Nat×AV)→List (Nat×AV)
 | []=>[]
 | (i,a)::l=>(i,a.ren r)::zn6 r l
def zaz (g:Nat→Bool):List (Nat×AV)→Bool
 | []=>true
 | (_,a)::l=>a.only g&&zaz g l
theorem ziC {r:Nat→Nat} {k:Nat} {p:Nat→PV}:∀ {xs:List (Nat×AV)},z5L p (zn6 r xs) k=(z5L p xs k).ren r
 | []=>rfl
 | (i,a)::l=>by
  simp only [zn6,z5L]
  cases Nat.beq i k with
  | true=>rfl
  | false=>exact ziC
theorem zdM {g:Nat→Bool} {k:Nat} {p:Nat→PV}:∀ {xs:List (Nat×AV)},zaz g xs=true→(z5L p xs k).only g=true
 | [],_=>rfl
 | (i,a)::l,h=>by
  simp only [zaz,yw] at h
  simp only [z5L]
  cases Nat.beq i k with
  | true=>exact h.1
  | false=>exact zdM h.2
theorem ziE {r:Nat→Nat} {k:Nat} {p:Nat→Option PV}:∀ {xs:List (Nat×AV)},zci p (zn6 r xs) k=zci p xs k
 | []=>rfl
 | (i,a)::l=>by
  simp only [zn6,zci]
  cases Nat.beq i k with
  | true=>rfl
  | false=>exact ziE
def zn7 (r:Nat→Nat):VB→VB
 | .cells cs t=>.cells (z0N r cs) t
 | .arr n sz f t=>.arr n sz f t
 | .loop st pd G N ps asg body=>.loop st pd (zq8 r G) N ps asg body
 | .acc n sz f t=>.acc n sz f t
 | .mapI f=>.mapI f
 | .hdr n p xs t=>.hdr n p (zn6 r xs) t
 | .oarr w n sz f t=>.oarr w n sz f t
 | .mapA m p xs=>.mapA m p (zn6 r xs)
 | .itr o=>.itr o
def zg4 (g:Nat→Bool):VB→Bool
 | .cells cs _=>z06 g cs
 | .arr _ _ _ _=>true
 | .loop _ _ G _ _ _ _=>z2Q g G
 | .acc _ _ _ _=>true
 | .mapI _=>true
 | .hdr _ _ xs _=>zaz g xs
 | .oarr _ _ _ _ _=>true
 | .mapA _ _ xs=>zaz g xs
 | .itr _=>true
theorem zei {r:Nat→Nat} {vb:VB} (h:vb.void):(zn7 r vb).void:=by cases vb <;> exact h
def zdc (ps:List (Nat×Nat)) (L:VS):List (Nat×Nat)→Option VS
 | []=>some []
 | (k,i)::l=>match bk L i,zdc ps L l with
  | some vb,some r=>bif zg4 (olds ps) vb then some ((k,zn7 (rnk ps) vb)::r) else none
  | _,_=>none
def z5r (ps:List (Nat×Nat)) (j:Nm):Nm:=fun k=>match pl ps k with
 | some i=>j i
 | none=>none
theorem bne {a b:Nat} (h:a≠b):Nat.beq a b=false:=z0B h
theorem zao:∀ {ps:List (Nat×Nat)} {i:Nat},olds ps i=true→news ps (rnk ps i)=true
 | [],i,h=>by cases h
 | (k,i0)::l,i,h=>by
  simp only [rnk]
  by_cases e:i0=i
  ·subst e;simp [news]
  ·rw [bne e]
   simp only [olds,List.any_cons,bne e,Bool.false_or] at h
   have:=zao (ps:=l) h
   simp only [cond_false]
   simp only [news,List.any_cons,Bool.or_eq_true]
   exact .inr this
theorem zeI:∀ {ps:List (Nat×Nat)} {i:Nat},zbI ps=true→olds ps i=true→pl ps (rnk ps i)=some i
 | [],i,_,h=>by cases h
 | (k,i0)::l,i,hp,h=>by
  simp only [zbI,yw,Bool.not_eq_true'] at hp
  obtain ⟨h1,h2,h3⟩:=hp
  simp only [rnk,pl]
  by_cases e:i0=i
  ·subst e;simp
  ·rw [bne e]
   simp only [olds,List.any_cons,bne e,Bool.false_or] at h
   have h4:=zao (ps:=l) h
   simp only [cond_false]
   rw [bne (fun e2=>by rw [←e2,h1] at h4;cases h4)]
   exact zeI h3 h
theorem z3V:∀ {ps:List (Nat×Nat)} {k i:Nat},pl ps k=some i→olds ps i=true
 | [],k,i,h=>by cases h
 | (k0,i0)::l,k,i,h=>by
  simp only [pl] at h
  by_cases e:k0=k
  ·subst e;simp at h;subst h;simp [olds]
  ·rw [bne e] at h
   have:=z3V (ps:=l) h
   simp only [olds,List.any_cons,Bool.or_eq_true]
   exact .inr this
theorem z9z:∀ {ps:List (Nat×Nat)} {k i:Nat},zbI ps=true→pl ps k=some i→rnk ps i=k
 | [],k,i,_,h=>by cases h
 | (k0,i0)::l,k,i,hp,h=>by
  simp only [zbI,yw,Bool.not_eq_true'] at hp
  obtain ⟨h1,h2,h3⟩:=hp
  simp only [pl] at h
  simp only [rnk]
  by_cases e:k0=k
  ·subst e;simp at h;subst h;simp
  ·rw [bne e] at h
   have h4:=z3V (ps:=l) h
   rw [bne (fun e2=>by rw [e2,h4] at h2;cases h2)]
   exact z9z h3 h
theorem z5y {ps:List (Nat×Nat)} {L:VS}:∀ {l:List (Nat×Nat)} {r:VS},zdc ps L l=some r→∀ k,(bk r k=none→pl l k=none)∧∀ vb',bk r k=some vb'→∃ i vb,pl l k=some i∧bk L i=some vb∧zg4 (olds ps) vb=true∧vb'=zn7 (rnk ps) vb
 | [],r,h,k=>by cases h;exact ⟨fun _=>rfl,fun vb' h=>by cases h⟩
 | (k0,i0)::l,r,h,k=>by
  simp only [zdc] at h
  split at h
  ·rename_i vb r0 hvb hr0
   cases ho:zg4 (olds ps) vb with
   | false=>rw [ho] at h;cases h
   | true =>
    rw [ho] at h
    cases h
    have ih:=z5y hr0 k
    simp only [pl]
    rw [zA]
    by_cases e:k0=k
    ·subst e
     simp only [Nat.beq_refl,cond_true,if_pos]
     exact ⟨fun h=>(by cases h),fun vb' h=>by cases h;exact ⟨i0,vb,rfl,hvb,ho,rfl⟩⟩
    ·rw [bne e,if_neg (fun e2=>e e2.symm)]
     exact ih
  ·cases h
section
variable {E:Env} {S:St} {Z:Nat→Prop} {j:Nm} {L Lc:VS} {F:VK} {T:Fr} {ps:List (Nat×Nat)}
theorem z2i (hp:zbI ps=true):∀ i b,olds ps i=true→j i=some b→z5r ps j (rnk ps i)=some b:=fun i b hi hb=>by
 unfold z5r
 rw [zeI hp hi];exact hb
theorem BR.ren {S':St} {Z':Nat→Prop} {j':Nm} {g:Nat→Bool} {r:Nat→Nat} {b:Nat} {vb:VB} (h:BR E S Z j b vb) (hh:S'.heap.get b=S.heap.get b) (hz:ZLe E S Z S' Z') (hj:∀ i b,g i=true→j i=some b→j' (r i)=some b) (ho:zg4 g vb=true):BR E S' Z' j' b (zn7 r vb):=by
 have hc:S'.cells b=S.cells b:=by unfold St.cells;rw [hh]
 cases vb with
 | cells cs t=>obtain ⟨vs,h1,h2,h3⟩:=h;exact ⟨vs,hc.trans h1,h2,h3.ren hz hj ho⟩
 | arr n sz f t=>obtain ⟨vs,g,h1,h2,h3,h4⟩:=h;exact ⟨vs,g,hc.trans h1,h2,h3,fun k hk=>(h4 k hk).mono hz⟩
 | loop st pd G N ps asg body =>
  obtain ⟨T,h1,h2,h3⟩:=h
  refine ⟨T,hh.trans h1,h2,fun t a ha=>?_⟩
  obtain ⟨a0,k1,rfl,k3⟩:=zjD ha ho
  obtain ⟨v,k4,k5⟩:=h3 t a0 k1
  exact ⟨v,k4,k5.ren hz hj k3⟩
 | acc n sz f t=>obtain ⟨vs,g,h1,h2,h3,h4⟩:=h;exact ⟨vs,g,hc.trans h1,h2,h3,fun k hk=>(h4 k hk).mono hz⟩
 | mapI f=>obtain ⟨l,h1,h2⟩:=h;exact ⟨l,hh.trans h1,h2⟩
 | hdr n p xs t =>
  obtain ⟨vs,h1,h2,h3,h4⟩:=h
  refine ⟨vs,hc.trans h1,h2,h3,fun k hk=>?_⟩
  obtain ⟨v,h5,h6⟩:=h4 k hk
  refine ⟨v,h5,?_⟩
  rw [ziC];exact h6.ren hz hj (zdM ho)
 | oarr w n sz f t=>obtain ⟨vs,g,h1,h2,h3,h4⟩:=h;exact ⟨vs,g,hc.trans h1,h2,h3,fun k hk=>(h4 k hk).mono hz⟩
 | mapA m p xs =>
  obtain ⟨l,h1,h2,h3⟩:=h
  refine ⟨l,hh.trans h1,h2,fun k=>?_⟩
  obtain ⟨h4,h5⟩:=h3 k
  rw [ziE,ziC]
  exact ⟨h4,fun v hv=>(h5 v hv).ren hz hj (zdM ho)⟩
 | itr o=>exact hh.trans h
theorem SR.sel (h:SR E S Z j L) (hp:zbI ps=true) (hs:zdc ps L ps=some Lc):SR E S Z (z5r ps j) Lc:=by
 refine ⟨h.zlt,fun k b hb=>?_,fun k k' b hb hb'=>?_,fun k hk=>?_,fun k vb hk=>?_,fun b c hb=>⟨(h.rom b c hb).1,fun k hk=>?_⟩⟩
 ·unfold z5r at hb
  split at hb
  ·exact h.jlt _ _ hb
  ·cases hb
 ·unfold z5r at hb hb'
  split at hb
  ·rename_i i hi
   split at hb'
   ·rename_i i' hi'
    have:=h.inj _ _ _ hb hb';subst this
    rw [←z9z hp hi,←z9z hp hi']
   ·cases hb'
  ·cases hb
 ·unfold z5r
  rw [(z5y hs k).1 hk]
 ·obtain ⟨i,vb0,h1,h2,h3,rfl⟩:=(z5y hs k).2 vb hk
  rcases h.blk' i vb0 h2 with hv | ⟨b,h4,h5⟩
  ·exact .inl (zei hv)
  refine .inr ⟨b,?_,h5.ren rfl (ZLe.refl _ _) (z2i hp) h3⟩
  unfold z5r;rw [h1];exact h4
 ·unfold z5r at hk
  split at hk
  ·exact (h.rom b c hb).2 _ hk
  ·cases hk
end
def AImp (a b:AV):Prop:=∀ E S Z j v,VR E S Z j a v→VR E S Z j b v
theorem AImp.refl (a:AV):AImp a a:=fun _ _ _ _ _ h=>h
def BImp (a b:VB):Prop:=(∀ E S Z j c,BR E S Z j c a→BR E S Z j c b)∧(a.void→b.void)
theorem BImp.refl (a:VB):BImp a a:=⟨fun _ _ _ _ _ h=>h,id⟩
theorem BImp.arr {n sz:Nat} {f g:Nat→List PV} {t:TypeId} (h:∀ k,k<n→f k=g k):BImp (.arr n sz f t) (.arr n sz g t):=by
 refine ⟨?_,id⟩
 rintro E S Z j c ⟨vs,gg,h1,h2,h3,h4⟩
 exact ⟨vs,gg,h1,h2,h3,fun k hk=>by rw [←h k hk];exact h4 k hk⟩
theorem BImp.acc {n n' sz:Nat} {f g:Nat→List PV} {t:TypeId} (e:n=n') (h:∀ k,k<n→f k=g k):BImp (.acc n sz f t) (.acc n' sz g t):=by
 subst e
 refine ⟨?_,id⟩
 rintro E S Z j c ⟨vs,gg,h1,h2,h3,h4⟩
 exact ⟨vs,gg,h1,h2,h3,fun k hk=>by rw [←h k hk];exact h4 k hk⟩
theorem zeb {n n' sz:Nat} {f g:Nat→List PV} {t:TypeId} (hn:0<n) (e:n=n') (h:∀ k,k<n→f k=g k):BImp (.acc n sz f t) (.arr n' sz g t):=by
 subst e
 refine ⟨?_,fun h=>by have h:n=0:=h;omega⟩
 rintro E S Z j c ⟨vs,gg,h1,h2,h3,h4⟩
 exact ⟨vs,gg,h1,h2,h3,fun k hk=>by rw [←h k hk];exact h4 k hk⟩
theorem zea {n n' sz:Nat} {f g:Nat→List PV} {t:TypeId} (e:n=n') (h:∀ k,k<n→f k=g k):BImp (.arr n sz f t) (.acc n' sz g t):=by
 subst e
 refine ⟨?_,fun h=>h.elim⟩
 rintro E S Z j c ⟨vs,gg,h1,h2,h3,h4⟩
 exact ⟨vs,gg,h1,h2,h3,fun k hk=>by rw [←h k hk];exact h4 k hk⟩
theorem zgG {nb:Bool} {i sz n m c:Nat} (hn:0<n) (h1:n=m) (h2:n=c):AImp (.acc nb i sz n) (.sl i sz 0 m c 0):=by
 subst h1 h2
 intro E S Z j v hv
 cases hv with
 | accN=>omega
 | accE=>omega
 | accC h =>
  rename_i n b
  have:=VR.sl (E:=E) (S:=S) (Z:=Z) (sz:=sz) (off:=0) (n:=n+1) (cap:=n+1) (ex:=0) h
  rw [Nat.zero_mul] at this;exact this
theorem zgF {nb:Bool} {i sz n m c:Nat} (hn:0<n) (h1:m=n) (h2:c=n):AImp (.sl i sz 0 m c 0) (.acc nb i sz n):=by
 subst h1 h2
 intro E S Z j v hv
 cases hv with
 | sl h =>
  rw [Nat.zero_mul]
  cases c with
  | zero=>omega
  | succ n=>exact .accC h
theorem z1g {i sz ty:Nat} {f:Nat→List PV}:AImp (.p (.lst ty true 0 f)) (.acc true i sz 0):=fun E S Z j v hv=>by
 cases hv with
 | p hv=>cases hv;exact .accN
theorem AImp.empAcc {i sz:Nat}:AImp (.p .emp) (.acc false i sz 0):=fun E S Z j v hv=>by
 cases hv with
 | p hv=>cases hv with
  | emp h1 h2 h3=>exact .accE h1 h2 h3
theorem AImp.acc {nb nb':Bool} {i sz n n':Nat} (h:n=n') (hb:n=0→nb=nb'):AImp (.acc nb i sz n) (.acc nb' i sz n'):=by
 subst h
 intro E S Z j v hv
 cases hv with
 | accN=>rw [←hb rfl];exact .accN
 | accE h1 h2 h3=>rw [←hb rfl];exact .accE h1 h2 h3
 | accC h=>exact .accC h
theorem BImp.cell1 {a b:AV} {t:TypeId} (h:AImp a b):BImp (.cells [a] t) (.cells [b] t):=by
 refine ⟨?_,id⟩
 rintro E S Z j c ⟨vs,h1,h2,h3⟩
 refine ⟨vs,h1,h2,?_⟩
 cases h3 with
 | cons h4 h5=>exact .cons (h _ _ _ _ _ h4) h5
theorem AImp.lst {ty n:Nat} {nb:Bool} {f g:Nat→List PV} (h:∀ k,k<n→f k=g k):AImp (.p (.lst ty nb n f)) (.p (.lst ty nb n g)):=by
 intro E S Z j v hv
 cases hv with
 | p hv=>cases hv with
  | nil=>exact .p (.nil _ _)
  | lst gg h1 h2 h3 h4 h5 h6 h7=>exact .p (.lst gg h1 h2 h3 h4 h5 h6 fun k hk=>by rw [←h k hk];exact h7 k hk)
theorem AImp.nil {ty ty':Nat} {f g:Nat→List PV}:AImp (.p (.lst ty true 0 f)) (.p (.lst ty' true 0 g)):=by
 intro E S Z j v hv
 cases hv with
 | p hv=>cases hv with
  | nil=>exact .p (.nil _ _)
theorem AImp.emp {ty:Nat} {f:Nat→List PV}:AImp (.p .emp) (.p (.lst ty false 0 f)):=by
 intro E S Z j v hv
 cases hv with
 | p hv=>cases hv with
  | emp h1 h2 h3=>exact .p (.lst (sz:=0) (fun _=>[]) h1 h2 (ym _) h3 (.inl rfl) (fun k hk=>absurd hk (Nat.not_lt_zero k)) (fun k hk=>absurd hk (Nat.not_lt_zero k)))
def LImp:VS→VS→Prop
 | [],[]=>True
 | (i,v)::l,(k,w)::m=>i=k∧BImp v w∧LImp l m
 | _,_=>False
theorem LImp.refl:∀ (L:VS),LImp L L
 | []=>trivial
 | (_,v)::l=>⟨rfl,BImp.refl v,LImp.refl l⟩
theorem LImp.key:∀ {l m:VS},LImp l m→∀ k,(bk m k=none→bk l k=none)∧∀ w,bk m k=some w→∃ v,bk l k=some v∧BImp v w
 | [],[],_,k=>⟨fun _=>rfl,fun w h=>by cases h⟩
 | (i,v)::l,(i',w)::m,h,k=>by
  obtain ⟨rfl,h1,h2⟩:=h
  rw [zA,zA]
  by_cases e:k=i
  ·rw [if_pos e,if_pos e]
   exact ⟨fun h=>(by cases h),fun w h=>by cases h;exact ⟨v,rfl,h1⟩⟩
  ·rw [if_neg e,if_neg e]
   exact LImp.key h2 k
 | [],_::_,h,_=>h.elim
 | _::_,[],h,_=>h.elim
theorem SR.imp {E:Env} {S:St} {Z:Nat→Prop} {j:Nm} {L L':VS} (h:SR E S Z j L) (hl:LImp L L'):SR E S Z j L' :=
 ⟨h.zlt,h.jlt,h.inj,fun i hi=>h.dom i ((hl.key i).1 hi),fun i w hi=>by
  obtain ⟨v,h1,h2⟩:=(hl.key i).2 w hi
  rcases h.blk' i v h1 with hv | ⟨b,h3,h4⟩
  ·exact .inl (h2.2 hv)
  exact .inr ⟨b,h3,h2.1 _ _ _ _ _ h4⟩,h.rom⟩
structure Wk (st:List Nat) (ps:List (Nat×Nat)) (F:VK) (L:VS) (F0:VK) (L0:VS):Prop where
 ok:zbI ps=true
 st:(st.all fun i=>Option.rec false (fun k=>Nat.beq k i) (pl ps i))=true
 fr:∀ p∈F0,∃ a,ak F p.1=some a∧a.only (olds ps)=true∧AImp (a.ren (rnk ps)) p.2
 bl:∃ L1,zdc ps L ps=some L1∧LImp L1 L0
theorem zw {F:VK} {ps:List (Nat×Nat)}:∀ p∈([]:VK),∃ a,ak F p.1=some a∧a.only (olds ps)=true∧AImp (a.ren (rnk ps)) p.2:=fun p h=>by cases h
theorem z2c {F F0:VK} {ps:List (Nat×Nat)} {t:Nat} {a a0:AV} (h:ak F t=some a) (ho:a.only (olds ps)=true) (hr:AImp (a.ren (rnk ps)) a0) (hl:∀ p∈F0,∃ a,ak F p.1=some a∧a.only (olds ps)=true∧AImp (a.ren (rnk ps)) p.2) :
  ∀ p∈(t,a0)::F0,∃ a,ak F p.1=some a∧a.only (olds ps)=true∧AImp (a.ren (rnk ps)) p.2:=fun p hp=>by
 rcases List.mem_cons.1 hp with rfl | hp
 ·exact ⟨a,h,ho,hr⟩
 ·exact hl p hp
theorem z0k {F F0:VK} {ps:List (Nat×Nat)} {t:Nat} {a a0:AV} (h:ak F t=some a) (ho:a.only (olds ps)=true) (hr:a.ren (rnk ps)=a0) (hl:∀ p∈F0,∃ a,ak F p.1=some a∧a.only (olds ps)=true∧AImp (a.ren (rnk ps)) p.2) :
  ∀ p∈(t,a0)::F0,∃ a,ak F p.1=some a∧a.only (olds ps)=true∧AImp (a.ren (rnk ps)) p.2:=z2c h ho (hr ▸ AImp.refl _) hl
theorem z4k:∀ {F:VK} {t:Nat} {a:AV},ak F t=some a→(t,a)∈F
 | [],t,a,h=>by cases h
 | (s,b)::l,t,a,h=>by
  simp only [ak] at h
  by_cases e:s=t
  ·subst e;simp at h;subst h;simp
  ·rw [bne e] at h;exact List.mem_cons_of_mem _ (z4k h)
section
variable {E:Env} {S:St} {Z:Nat→Prop} {j:Nm} {L L0:VS} {F F0:VK} {T:Fr} {ps:List (Nat×Nat)} {st:List Nat}
theorem Wk.sr (h:Wk st ps F L F0 L0) (hS:SR E S Z j L):SR E S Z (z5r ps j) L0:=by
 obtain ⟨L1,h1,h2⟩:=h.bl
 exact (hS.sel h.ok h1).imp h2
theorem Wk.frr (h:Wk st ps F L F0 L0) (hF:FRR E S Z j F T):FRR E S Z (z5r ps j) F0 T:=by
 intro t a0 ha
 obtain ⟨a,h1,h2,h3⟩:=h.fr _ (z4k ha)
 obtain ⟨v,h4,h5⟩:=hF t a h1
 exact ⟨v,h4,h3 _ _ _ _ _ (h5.ren (ZLe.refl _ _) (z2i h.ok) h2)⟩
theorem jsel_ex:Ex S Z j S Z (z5r ps j):=by
 refine ⟨ym _,fun _ _ _=>rfl,fun _ h=>h,fun _ h=>.inl h,fun k b hb=>?_,ym _,fun _ h _ _=>h⟩
 unfold z5r at hb
 split at hb
 ·exact .inr ⟨_,hb⟩
 ·cases hb
theorem Wk.stay (h:Wk st ps F L F0 L0):Stay st j (z5r ps j):=by
 intro i hi b hb
 have:=List.all_eq_true.1 h.st i hi
 unfold z5r
 cases hp:pl ps i with
 | none=>rw [hp] at this;cases this
 | some k=>rw [hp] at this;have:=zm this;subst this;exact hb
end
section
variable {E:Env} {N:Nat} {st:List Nat} {rd:Option Nat} {F F0:VK} {L L0:VS} {ps:List (Nat×Nat)}
theorem VW.weak {c:Code} {Q:zK} (hw:Wk st ps F L F0 L0) (h:VW E N st rd c F0 L0 Q):VW E N st rd c F L Q:=by
 intro T S Z j h1 h2 h3 h4
 obtain ⟨n,r,h5,F',L',Z',j',h6,h7⟩:=h T S Z (z5r ps j) h1 (hw.sr h2) (hw.frr h3) h4
 exact ⟨n,r,h5,F',L',Z',j',⟨h6.n,h6.sr,h6.fr,jsel_ex.trans h6.ex,h6.low,hw.stay.trans h6.stay⟩,h7⟩
theorem VO.weak {ops:Array Oper} {rest:List Oper} {Q:VK→VS→Prop} (hw:Wk st ps F L F0 L0) (h:VO E N st ops rest F0 L0 Q):VO E N st ops rest F L Q:=by
 intro T S Z j h1 h2 h3 h4
 obtain ⟨n,r,h5,F',L',Z',j',h6,h7⟩:=h T S Z (z5r ps j) h1 (hw.sr h2) (hw.frr h3) h4
 exact ⟨n,r,h5,F',L',Z',j',⟨h6.n,h6.sr,h6.fr,jsel_ex.trans h6.ex,h6.low,hw.stay.trans h6.stay⟩,h7⟩
def Vw (E:Env) (st:List Nat) (F:VK) (L:VS) (F0:VK) (L0:VS):Prop:=∀ T S Z j,SR E S Z j L→FRR E S Z j F T→∃ Z' j',SR E S Z' j' L0∧FRR E S Z' j' F0 T∧Ex S Z j S Z' j'∧Stay st j j'
theorem z0F {ps:List (Nat×Nat)} {F F0:VK} {L L0:VS} (h:Wk st ps F L F0 L0):Vw E st F L F0 L0:=fun T S Z j h1 h2=>⟨Z,z5r ps j,h.sr h1,h.frr h2,jsel_ex,h.stay⟩
theorem Vw.sub {F F0:VK} {L:VS} (h:∀ p∈F0,ak F p.1=some p.2):Vw E st F L F0 L:=fun T S Z j h1 h2=>⟨Z,j,h1,fun t a ha=>h2 t a (h _ (z4k ha)),Ex.refl _ _ _,Stay.refl _ _⟩
theorem Vw.sub' {F F0:VK} {L:VS} (h:∀ t a,ak F0 t=some a→ak F t=some a):Vw E st F L F0 L:=fun T S Z j h1 h2=>⟨Z,j,h1,fun t a ha=>h2 t a (h _ _ ha),Ex.refl _ _ _,Stay.refl _ _⟩
theorem Vw.trans {F F0 F1:VK} {L L0 L1:VS} (h:Vw E st F L F0 L0) (k:Vw E st F0 L0 F1 L1):Vw E st F L F1 L1:=fun T S Z j h1 h2=>by
 obtain ⟨Z',j',k1,k2,k3,k4⟩:=h T S Z j h1 h2
 obtain ⟨Z2,j2,m1,m2,m3,m4⟩:=k T S Z' j' k1 k2
 exact ⟨Z2,j2,m1,m2,k3.trans m3,k4.trans m4⟩
theorem Vw.imp {F:VK} {L L':VS} (h:LImp L L'):Vw E st F L F L':=fun T S Z j h1 h2=>⟨Z,j,h1.imp h,h2,Ex.refl _ _ _,Stay.refl _ _⟩
theorem VW.view {c:Code} {Q:zK} (hw:Vw E st F L F0 L0) (h:VW E N st rd c F0 L0 Q):VW E N st rd c F L Q:=by
 intro T S Z j h1 h2 h3 h4
 obtain ⟨Z',j',k1,k2,k3,k4⟩:=hw T S Z j h2 h3
 obtain ⟨n,r,h5,F',L',Z2,j2,h6,h7⟩:=h T S Z' j' h1 k1 k2 h4
 exact ⟨n,r,h5,F',L',Z2,j2,⟨h6.n,h6.sr,h6.fr,k3.trans h6.ex,h6.low,k4.trans h6.stay⟩,h7⟩
theorem VW.loop {α : Type} {b:Code} {Q:zK} (I : α → VK→VS→Prop) (μ : α → Nat)
  (hb:∀ x F L,I x F L→VW E N st rd b F L fun e F' L'=>match e with
   | .normal=>∃ y F0 L0,Vw E st F' L' F0 L0∧I y F0 L0∧μ y < μ x
   | e=>Q e F' L'):∀ x F L,I x F L→VW E N st rd (.loop b) F L Q:=by
 have key:∀ k x F L,μ x≤k→I x F L→VW E N st rd (.loop b) F L Q:=by
  intro k
  induction k with
  | zero =>
   intro x F L hx hI T S Z j h1 h2 h3 h4
   obtain ⟨n,r,h5,F',L',Z',j',h6,h7⟩:=hb x F L hI T S Z j h1 h2 h3 h4
   cases hr:r.ex with
   | normal=>rw [hr] at h7;obtain ⟨y,_,_,_,_,h8⟩:=h7;omega
   | exit id =>
    rw [hr] at h7
    refine ⟨n+1,r,fun m hm=>?_,F',L',Z',j',h6,by rw [hr];exact h7⟩
    obtain ⟨k,rfl,hk⟩:=zh hm
    show ob ((run E (k+1)).code b rd T S) _=_
    rw [h5 _ (by omega)]
    show zl r _=_
    unfold zl;rw [hr]
   | ret =>
    rw [hr] at h7
    refine ⟨n+1,r,fun m hm=>?_,F',L',Z',j',h6,by rw [hr];exact h7⟩
    obtain ⟨k,rfl,hk⟩:=zh hm
    show ob ((run E (k+1)).code b rd T S) _=_
    rw [h5 _ (by omega)]
    show zl r _=_
    unfold zl;rw [hr]
  | succ k ih =>
   intro x F L hx hI T S Z j h1 h2 h3 h4
   obtain ⟨n,r,h5,F',L',Z',j',h6,h7⟩:=hb x F L hI T S Z j h1 h2 h3 h4
   cases hr:r.ex with
   | normal =>
    rw [hr] at h7
    obtain ⟨y,F0,L0,hw,hI',hy⟩:=h7
    obtain ⟨Z1,j1,w1,w2,w3,w4⟩:=hw r.T r.S Z' j' h6.sr h6.fr
    obtain ⟨n2,r2,k1,F2,L2,Z2,j2,k2,k3⟩:=ih y F0 L0 (by omega) hI' r.T r.S Z1 j1 h6.n w1 w2 h6.low
    refine ⟨n+n2+1,r2,fun m hm=>?_,F2,L2,Z2,j2,⟨k2.n,k2.sr,k2.fr,h6.ex.trans (w3.trans k2.ex),k2.low,h6.stay.trans (w4.trans k2.stay)⟩,k3⟩
    obtain ⟨k,rfl,hk⟩:=zh hm
    show ob ((run E (k+1)).code b rd T S) _=_
    rw [h5 _ (by omega)]
    show zl r _=_
    unfold zl;rw [hr]
    exact k1 _ (by omega)
   | exit id =>
    rw [hr] at h7
    refine ⟨n+1,r,fun m hm=>?_,F',L',Z',j',h6,by rw [hr];exact h7⟩
    obtain ⟨k,rfl,hk⟩:=zh hm
    show ob ((run E (k+1)).code b rd T S) _=_
    rw [h5 _ (by omega)]
    show zl r _=_
    unfold zl;rw [hr]
   | ret =>
    rw [hr] at h7
    refine ⟨n+1,r,fun m hm=>?_,F',L',Z',j',h6,by rw [hr];exact h7⟩
    obtain ⟨k,rfl,hk⟩:=zh hm
    show ob ((run E (k+1)).code b rd T S) _=_
    rw [h5 _ (by omega)]
    show zl r _=_
    unfold zl;rw [hr]
 exact fun x F L h=>key (μ x) x F L (ym _) h
end
end
noncomputable section
section
variable {E:Env} {N:Nat} {st:List Nat} {rd:Option Nat} {F:VK} {L:VS}
def z2V (ps:List (Nat×Nat)):VS→VS
 | []=>[]
 | (i,v)::l=>bif olds ps i then z2V ps l else (i,v)::z2V ps l
def z1p (ps:List (Nat×Nat)) (base k:Nat):Nat:=match pl ps k with
 | some i=>i
 | none=>base+k
def z4j (r:Nat→Nat):VS→VS
 | []=>[]
 | (k,v)::l=>(r k,zn7 r v)::z4j r l
mutual
theorem z4u:∀ (a:AV),a.only (fun _=>true)=true
 | .p _=>rfl
 | .agg cs=>z2Z cs
 | .ref _ _=>rfl
 | .el _ _ _ _=>rfl
 | .sl _ _ _ _ _ _=>rfl
 | .fn _ a b=>by simp only [za2,z2Z a,z2Z b,Bool.and_self]
 | .map _=>rfl
 | .tup vs=>z2Z vs
 | .yld _=>rfl
 | .acc _ _ _ _=>rfl
 | .lit _=>rfl
 | .junk=>rfl
theorem z2Z:∀ (l:List AV),z06 (fun _=>true) l=true
 | []=>rfl
 | a::l=>by simp only [z6g,z4u a,z2Z l,Bool.and_self]
end
theorem zbX:∀ (G:VK),z2Q (fun _=>true) G=true
 | []=>rfl
 | (_,a)::l=>by simp only [z2Q,z4u a,zbX l,Bool.and_self]
theorem zi4 (v:VB):zg4 (fun _=>true) v=true:=by
 cases v with
 | cells cs t=>exact z2Z cs
 | arr _ _ _ _=>rfl
 | loop st pd G N ps asg body=>exact zbX G
 | acc _ _ _ _=>rfl
 | mapI _=>rfl
 | hdr _ _ xs _ =>
  show zaz _ xs=true
  induction xs with
  | nil=>rfl
  | cons a l ih=>obtain ⟨i,a⟩:=a;simp only [zaz,z4u a,ih,Bool.and_self]
 | oarr _ _ _ _ _=>rfl
 | mapA _ _ xs =>
  show zaz _ xs=true
  induction xs with
  | nil=>rfl
  | cons a l ih=>obtain ⟨i,a⟩:=a;simp only [zaz,z4u a,ih,Bool.and_self]
 | itr _=>rfl
theorem zjn:∀ {A B:VS} {i:Nat},bk (A++B) i=match bk A i with | some v=>some v | none=>bk B i
 | [],B,i=>rfl
 | (k,v)::A,B,i=>by
  rw [List.cons_append,zA,zA]
  by_cases e:i=k
  ·rw [if_pos e,if_pos e]
  ·rw [if_neg e,if_neg e];exact zjn
theorem z7S {ps:List (Nat×Nat)}:∀ {L:VS} {i:Nat},bk (z2V ps L) i=bif olds ps i then none else bk L i
 | [],i=>by simp only [z2V,bk];cases olds ps i <;> rfl
 | (k,v)::l,i=>by
  simp only [z2V]
  cases ho:olds ps k with
  | true =>
   simp only [cond_true]
   rw [z7S,zA]
   by_cases e:i=k
   ·subst e;rw [ho];rfl
   ·rw [if_neg e]
  | false =>
   simp only [cond_false]
   rw [zA,zA,z7S]
   by_cases e:i=k
   ·subst e;rw [ho];simp
   ·rw [if_neg e,if_neg e]
theorem zba {r:Nat→Nat} (hr:∀ a b,r a=r b→a=b):∀ {L:VS} {i:Nat},(bk (z4j r L) i=none→∀ k,r k=i→bk L k=none)∧∀ w,bk (z4j r L) i=some w→∃ k v,r k=i∧bk L k=some v∧w=zn7 r v
 | [],i=>⟨fun _ _ _=>rfl,fun w h=>by cases h⟩
 | (k0,v0)::l,i=>by
  simp only [z4j]
  rw [zA]
  by_cases e:i=r k0
  ·rw [if_pos e]
   exact ⟨fun h=>(by cases h),fun w h=>(by cases h;exact ⟨k0,v0,e.symm,by rw [zA,if_pos rfl],rfl⟩)⟩
  ·rw [if_neg e]
   obtain ⟨h1,h2⟩:=zba hr (L:=l) (i:=i)
   refine ⟨fun h k hk=>?_,fun w h=>?_⟩
   ·rw [zA,if_neg (fun e2=>by subst e2;exact e hk.symm)]
    exact h1 h k hk
   ·obtain ⟨k,v,h3,h4,h5⟩:=h2 w h
    refine ⟨k,v,h3,?_,h5⟩
    rw [zA,if_neg (fun e2=>by subst e2;exact e h3.symm)]
    exact h4
theorem zkM {ps:List (Nat×Nat)} {k:Nat} (h:news ps k=true):∃ p∈ps,p.1=k:=by
 obtain ⟨p,h1,h2⟩:=List.any_eq_true.1 h
 exact ⟨p,h1,zm h2⟩
theorem z6K {S S':St} {Z Z':Nat→Prop} {j j':Nm} {L Lc L':VS} {ps:List (Nat×Nat)} {stc:List Nat} (hS:SR E S Z j L) (hp:zbI ps=true) (hsel:zdc ps L ps=some Lc) (hstc:(ps.all fun p=>stc.any fun k=>Nat.beq k p.1)=true)
  (hS':SR E S' Z' j' L') (hex:Ex S Z (z5r ps j) S' Z' j') (hstay:Stay stc (z5r ps j) j') :
  ∃ jn:Nm,SR E S' Z' jn (z4j (z1p ps (nx L)) L'++z2V ps L)∧Ex S Z j S' Z' jn∧(∀ i b,j i=some b→jn i=some b)∧(∀ k b,j' k=some b→jn (z1p ps (nx L) k)=some b):=by
 have holt:∀ i,olds ps i=true→i<nx L:=by
  intro i hi
  have h1:=zeI hp hi
  cases hb:bk Lc (rnk ps i) with
  | none=>rw [(z5y hsel _).1 hb] at h1;cases h1
  | some vb =>
   obtain ⟨i',v,h2,h3,_⟩:=(z5y hsel _).2 vb hb
   rw [h1] at h2;cases h2
   exact zg5 h3
 have hjs:∀ k b,z5r ps j k=some b→∃ i,pl ps k=some i∧j i=some b:=by
  intro k b hb
  unfold z5r at hb
  split at hb
  ·exact ⟨_,by assumption,hb⟩
  ·cases hb
 have hrin:∀ a b,z1p ps (nx L) a=z1p ps (nx L) b→a=b:=by
  intro a b h
  unfold z1p at h
  split at h
  ·rename_i i hi
   split at h
   ·rename_i i' hi'
    subst h
    rw [←z9z hp hi,←z9z hp hi']
   ·have:=holt i (z3V hi);omega
  ·split at h
   ·rename_i i' hi'
    have:=holt i' (z3V hi');omega
   ·omega
 let jn:Nm:=fun i=>if olds ps i=true then j' (rnk ps i) else if i<nx L then j i else match pl ps (i - nx L) with
  | some _=>none
  | none=>j' (i - nx L)
 have hjo:∀ i,olds ps i=true→jn i=j' (rnk ps i):=fun i h=>if_pos h
 have hjr:∀ i,olds ps i≠true→i<nx L→jn i=j i:=fun i h h2=>by show (if olds ps i=true then _ else _)=_;rw [if_neg h,if_pos h2]
 have hjn:∀ i,olds ps i≠true→¬ i<nx L→pl ps (i - nx L)=none→jn i=j' (i - nx L):=fun i h h2 h3=>by
  show (if olds ps i=true then _ else _)=_;rw [if_neg h,if_neg h2,h3]
 have hjx:∀ i,olds ps i≠true→¬ i<nx L→pl ps (i - nx L)≠none→jn i=none:=fun i h h2 h3=>by
  show (if olds ps i=true then _ else _)=_;rw [if_neg h,if_neg h2]
  split
  ·rfl
  ·rename_i e;exact absurd e h3
 have keep:∀ i b,j i=some b→jn i=some b:=by
  intro i b hb
  by_cases ho:olds ps i=true
  ·rw [hjo i ho]
   obtain ⟨p,hp1,hp2⟩:=zkM (zao ho)
   have h1:=List.all_eq_true.1 hstc p hp1
   obtain ⟨k,hk1,hk2⟩:=List.any_eq_true.1 h1
   have hk3:=zm hk2
   exact hstay _ (by rw [←hp2,←hk3];exact hk1) b (z2i hp i b ho hb)
  ·rw [hjr i ho]
   ·exact hb
   ·cases hbk:bk L i with
    | none=>rw [hS.dom i hbk] at hb;cases hb
    | some v=>exact zg5 hbk
 have back:∀ k b,j' k=some b→jn (z1p ps (nx L) k)=some b:=by
  intro k b hb
  unfold z1p
  split
  ·rename_i i hi
   rw [hjo i (z3V hi),z9z hp hi];exact hb
  ·rename_i hi
   have h1:olds ps (nx L+k)≠true:=fun h=>by have:=holt _ h;omega
   rw [hjn _ h1 (by omega) (by rw [Nat.add_sub_cancel_left];exact hi),Nat.add_sub_cancel_left];exact hb
 -- every name: an old one,one of the rest,or one of the callee's
 have cases3:∀ i b,jn i=some b→(∃ k,j' k=some b∧z1p ps (nx L) k=i)∨(olds ps i≠true∧j i=some b):=by
  intro i b hb
  by_cases ho:olds ps i=true
  ·rw [hjo i ho] at hb
   refine .inl ⟨_,hb,?_⟩
   unfold z1p;rw [zeI hp ho]
  ·by_cases hl:i<nx L
   ·rw [hjr i ho hl] at hb;exact .inr ⟨ho,hb⟩
   ·cases hpl:pl ps (i - nx L) with
    | some x=>rw [hjx i ho hl (by rw [hpl];simp)] at hb;cases hb
    | none =>
     rw [hjn i ho hl hpl] at hb
     refine .inl ⟨_,hb,?_⟩
     unfold z1p;rw [hpl]
     show nx L+(i - nx L)=i
     omega
 have apart:∀ i b k,olds ps i≠true→j i=some b→j' k=some b→False:=by
  intro i b k ho hi hk
  rcases hex.jn k b hk with h | ⟨k',h⟩
  ·have:=(hS.jlt i b hi).1;omega
  ·obtain ⟨i',h1,h2⟩:=hjs k' b h
   have:=hS.inj _ _ _ hi h2;subst this
   exact ho (z3V h1)
 refine ⟨jn,⟨hS'.zlt,fun i b hb=>?_,fun i i' b hb hb'=>?_,fun i hi=>?_,fun i vb hi=>?_,fun b c hb=>⟨(hS'.rom b c hb).1,fun i hi=>(by
  rcases cases3 i b hi with ⟨k,hk,_⟩ | ⟨_,hj⟩
  ·exact (hS'.rom b c hb).2 k hk
  ·exact (hS.rom b c hb).2 i hj)⟩⟩,⟨hex.size,fun b hb hn=>?_,hex.zz,fun b hb=>?_,fun i b hb=>?_,hex.low.1,fun m h1 h2 h3=>?_⟩,keep,back⟩
 ·rcases cases3 i b hb with ⟨k,hk,_⟩ | ⟨ho,hj⟩
  ·exact hS'.jlt k b hk
  ·refine ⟨yo (hS.jlt i b hj).1 hex.size,fun hz=>?_⟩
   rcases hex.zn b hz with h | h | ⟨k,h⟩
   ·exact (hS.jlt i b hj).2 h
   ·have:=(hS.jlt i b hj).1;omega
   ·obtain ⟨i',h1,h2⟩:=hjs k b h
    have:=hS.inj _ _ _ hj h2;subst this
    exact ho (z3V h1)
 ·rcases cases3 i b hb with ⟨k,hk,hk2⟩ | ⟨ho,hj⟩
  ·rcases cases3 i' b hb' with ⟨k',hk',hk2'⟩ | ⟨ho',hj'⟩
   ·have:=hS'.inj _ _ _ hk hk';subst this
    rw [←hk2,←hk2']
   ·exact (apart i' b k ho' hj' hk).elim
  ·rcases cases3 i' b hb' with ⟨k',hk',hk2'⟩ | ⟨ho',hj'⟩
   ·exact (apart i b k' ho hj hk').elim
   ·exact hS.inj _ _ _ hj hj'
 ·rw [zjn] at hi
  split at hi
  ·cases hi
  ·rename_i hb1
   rw [z7S] at hi
   cases hji:jn i with
   | none=>rfl
   | some b =>
    rcases cases3 i b hji with ⟨k,hk,hk2⟩ | ⟨ho,hj⟩
    ·have:=hS'.dom k ((zba hrin).1 hb1 k hk2)
     rw [hk] at this;cases this
    ·rw [show olds ps i=false by simpa using ho] at hi
     have:=hS.dom i hi
     rw [hj] at this;cases this
 ·rw [zjn] at hi
  split at hi
  ·rename_i v hv
   cases hi
   obtain ⟨k,v0,h1,h2,rfl⟩:=(zba hrin).2 _ hv
   rcases hS'.blk' k v0 h2 with hv | ⟨b,h3,h4⟩
   ·exact .inl (zei hv)
   refine .inr ⟨b,by rw [←h1];exact back k b h3,h4.ren rfl (ZLe.refl _ _) (fun k b _ hk=>back k b hk) (zi4 v0)⟩
  ·rw [z7S] at hi
   cases ho:olds ps i with
   | true=>rw [ho] at hi;cases hi
   | false =>
    rw [ho] at hi
    rcases hS.blk' i vb hi with hv | ⟨b,h3,h4⟩
    ·exact .inl hv
    refine .inr ⟨b,keep i b h3,h4.mono ?_ ?_ keep⟩
    ·refine hex.old b (hS.jlt i b h3).1 fun k hk=>?_
     obtain ⟨i',h1,h2⟩:=hjs k b hk
     have:=hS.inj _ _ _ h3 h2;subst this
     rw [z3V h1] at ho;cases ho
    ·intro b hb
     refine ⟨hex.zz b hb,?_⟩
     unfold rdc St.cells
     rw [hex.old b (hS.zlt b hb) fun k hk=>?_]
     obtain ⟨i',h1,h2⟩:=hjs k b hk
     exact (hS.jlt _ _ h2).2 hb
 ·refine hex.old b hb fun k hk=>?_
  obtain ⟨i',h1,h2⟩:=hjs k b hk
  exact hn i' h2
 ·rcases hex.zn b hb with h | h | ⟨k,h⟩
  ·exact .inl h
  ·exact .inr (.inl h)
  ·obtain ⟨i',h1,h2⟩:=hjs k b h
   exact .inr (.inr ⟨i',h2⟩)
 ·rcases cases3 i b hb with ⟨k,hk,_⟩ | ⟨ho,hj⟩
  ·rcases hex.jn k b hk with h | ⟨k',h⟩
   ·exact .inl h
   ·obtain ⟨i',h1,h2⟩:=hjs k' b h
    exact .inr ⟨i',h2⟩
  ·exact .inr ⟨i,hj⟩
 ·refine hex.low.2 m h1 h2 fun k b hk=>?_
  obtain ⟨i',h4,h5⟩:=hjs k b hk
  exact h3 i' b h5
theorem zdl {ops:Array Oper} {o:Oper} {c:Call} {f:Operand} {g:FuncId} {first cap args argsC:List AV} {Lc:VS} {ps:List (Nat×Nat)} {stc:List Nat} {R:AV→VS→Prop} (hg:vgd ops F o.guard=some true) (hd:zI o.dst N=true)
  (hop:o.op = .call c) (hc:c.callee = .value f) (hf:av F f=some (.fn g first cap)) (ha:avs F c.args.toList=some args) (hp:zbI ps=true) (hsel:zdc ps L ps=some Lc) (hstc:(ps.all fun p=>stc.any fun k=>Nat.beq k p.1)=true)
  (hon:z06 (olds ps) (first++(args++cap))=true) (hren:z0N (rnk ps) (first++(args++cap))=argsC) (hC:VC E stc g argsC Lc R)
  {T:Fr} {S:St} {Z:Nat→Prop} {j:Nm} (h1:T.n=N) (h2:SR E S Z j L) (h3:FRR E S Z j F T) (h4:S.low≤S.size) :
  ∃ n T' S' Z' jn a L',(∀ m,n≤m→zq E (run E m).call (run E m).code ops o T S=some (T',S'))∧R a L'∧T'.n=N∧SR E S' Z' jn (z4j (z1p ps (nx L)) L'++z2V ps L)∧FRR E S' Z' jn (zL o.dst (a.ren (z1p ps (nx L))) F) T'∧Ex S Z j S' Z' jn∧S'.low≤S'.size ∧
   (∀ i b,j i=some b→jn i=some b)∧(ps=[]→S.low≤S.size→S'.low=S.low)∧∀ m,m≤S.low→m≤S.size→(∀ k b,z5r ps j k=some b→m≤b)→m≤S'.low:=by
 obtain ⟨v,k1,k2⟩:=h3.ev hf
 obtain ⟨vs,k3,k4⟩:=h3.evs ha
 cases k2 with
 | fn q1 q2 =>
  rename_i fa ca
  have hvs:VRs E S Z j (first++(args++cap)) (fa.toList++(vs++ca.toList)):=q1.append (k4.append q2)
  have hvc:=hvs.ren (r:=rnk ps) (ZLe.refl S Z) (z2i hp) hon
  rw [hren] at hvc
  obtain ⟨n,u,S',h5,a,L',Z',j',h6,h7,h8,h9,h10,h11⟩:=hC S Z (z5r ps j) _ (h2.sel hp hsel) hvc h4
  obtain ⟨jn,m1,m2,m3,m4⟩:=z6K h2 hp hsel hstc h6 h8 h10
  have hu:VR E S' Z' jn (a.ren (z1p ps (nx L))) u:=h7.ren (ZLe.refl _ _) (fun k b _ hk=>m4 k b hk) (z4u a)
  obtain ⟨T',t1,t2,t3⟩:=z0I h1 (h3.mono' (m2.zle h2) m3) hd hu
  refine ⟨n,T',S',Z',jn,a,L',fun m hm=>?_,h11,t2,m1,t3,m2,h9,m3,fun hps hl=>?_,h8.low.2⟩
  ·unfold zq
   rw [z1r hg h3,hop]
   have:zR E (run E m).call (run E m).code T S (.call c)=some (u,S'):=by
    show ob (T.evs c.args.toList) _=_
    rw [k3,hc]
    show ob (T.ev f) _=_
    rw [k1]
    exact h5 m hm
   show ob (zR E _ _ T S (.call c)) (z3P T o.dst)=_
   rw [this]
   show ob (T.put o.dst u) _=_
   rw [t1];rfl
  ·subst hps
   refine Nat.le_antisymm h8.low.1 (h8.low.2 S.low (ym _) hl fun k b hk=>?_)
   cases hk
theorem VO.call {ops:Array Oper} {o:Oper} {rest:List Oper} {c:Call} {f:Operand} {g:FuncId} {first cap args argsC:List AV} {Lc:VS} {ps:List (Nat×Nat)} {stc:List Nat} {R:AV→VS→Prop} {Q:VK→VS→Prop} (hg:vgd ops F o.guard=some true) (hd:zI o.dst N=true)
  (hop:o.op = .call c) (hc:c.callee = .value f) (hf:av F f=some (.fn g first cap)) (ha:avs F c.args.toList=some args) (hp:zbI ps=true) (hsel:zdc ps L ps=some Lc) (hstc:(ps.all fun p=>stc.any fun k=>Nat.beq k p.1)=true)
  (hon:z06 (olds ps) (first++(args++cap))=true) (hren:z0N (rnk ps) (first++(args++cap))=argsC) (hC:VC E stc g argsC Lc R)
  (h:∀ a L',R a L'→VO E N st ops rest (zL o.dst (a.ren (z1p ps (nx L))) F) (z4j (z1p ps (nx L)) L'++z2V ps L) Q):VO E N st ops (o::rest) F L Q:=by
 intro T S Z j h1 h2 h3 h4
 obtain ⟨n,T',S',Z',jn,a,L',k1,k2,k3,k4,k5,k6,k7,k8,_⟩:=zdl hg hd hop hc hf ha hp hsel hstc hon hren hC h1 h2 h3 h4
 obtain ⟨n2,r,q1,F2,L2,Z2,j2,q2,q3⟩:=h a L' k2 T' S' Z' jn k3 k4 k5 k7
 refine ⟨n+n2,r,fun m hm=>?_,F2,L2,Z2,j2,⟨q2.n,q2.sr,q2.fr,k6.trans q2.ex,q2.low,Stay.trans (fun i _ b hb=>k8 i b hb) q2.stay⟩,q3⟩
 show ob (zq E _ _ ops o T S) _=_
 rw [k1 m (by omega)]
 exact q1 m (by omega)
theorem VD0.call {ops:Array Oper} {bs:List Nat} {ks:List (Nat×Option Nat)} {i:Nat} {o:Oper} {rest:List Oper} {c:Call} {f:Operand} {g:FuncId} {first cap args argsC:List AV} {Lc:VS} {ps:List (Nat×Nat)} {stc:List Nat} {R:AV→VS→Prop} {Q:VK→VS→Prop} (hg:vgd ops F o.guard=some true) (hd:zI o.dst N=true)
  (hop:o.op = .call c) (hc:c.callee = .value f) (hf:av F f=some (.fn g first cap)) (ha:avs F c.args.toList=some args) (hp:zbI ps=true) (hsel:zdc ps L ps=some Lc) (hstc:(ps.all fun p=>stc.any fun k=>Nat.beq k p.1)=true)
  (hon:z06 (olds ps) (first++(args++cap))=true) (hren:z0N (rnk ps) (first++(args++cap))=argsC) (hC:VC E stc g argsC Lc R) (hw:(ps.isEmpty||uni bs i)=true)
  (h:∀ a L',R a L'→VD0 E N st ops bs ks rest (i+1) (zL o.dst (a.ren (z1p ps (nx L))) F) (z4j (z1p ps (nx L)) L'++z2V ps L) Q):VD0 E N st ops bs ks (o::rest) i F L Q:=by
 intro T S Z j D r0 h1 h2 h3 h4 hD hi hks
 obtain ⟨hi1,hi2⟩:=z4S hi
 obtain ⟨n,T',S',Z',jn,a,L',k1,k2,k3,k4,k5,k6,k7,k8,k9,_⟩:=zdl hg hd hop hc hf ha hp hsel hstc hon hren hC h1 h2.at0 h3.at0 (ym _)
 have hdr:S.size≤S'.low∨uni bs i=true:=by
  simp only [Bool.or_eq_true] at hw
  rcases hw with hw | hw
  ·refine .inl ?_
   rw [k9 (List.isEmpty_iff.1 hw) (ym _)];exact ym _
  ·exact .inr hw
 obtain ⟨n2,r,q1,F2,L2,Z2,j2,q2,q3⟩:=h a L' k2 T' (S.back S') Z' jn _ r0 k3 k4.back k5.back (z1P k7) (z0U (size:=S.size) hi1 hD (z1L (k1 n (ym _)))) hi2 (hks.step rfl k6.size k8)
 refine ⟨n+n2,r,fun m hm=>?_,F2,L2,Z2,j2,⟨q2.n,q2.sr,q2.fr,k6.back.trans q2.ex,q2.low,Stay.trans (fun i _ b hb=>k8 i b hb) q2.stay⟩,q3⟩
 show ob (zq E _ _ ops o T S.at0) _=_
 rw [k1 m (by omega)]
 show ob (z0s ops bs i T S.size S'.low o.op D) _=_
 rw [z2j hi1 hD hdr]
 exact q1 m (by omega)
end
end
noncomputable section
inductive VSt where
 | code (c:Code) (K:List KI) (F:VK) (L:VS)
 | ops (ops:Array Oper) (rest:List Oper) (K:List KI) (F:VK) (L:VS)
 | dops (ops:Array Oper) (bs:List Nat) (ks:List (Nat×Option Nat)) (rest:List Oper) (i:Nat) (K:List KI) (F:VK) (L:VS)
 | ex (e:LExit) (K:List KI) (F:VK) (L:VS)
section
variable (E:Env) (N:Nat) (st:List Nat) (rd:Option Nat) (Q:zK)
def VSt.H:VSt→Prop
 | .code c K F L=>VW E N st rd c F L (KX E N st rd Q K)
 | .ops os rest K F L=>VO E N st os rest F L fun F L=>KX E N st rd Q K .normal F L
 | .dops os bs ks rest i K F L=>VD0 E N st os bs ks rest i F L fun F L=>KX E N st rd Q K .normal F L
 | .ex e K F L=>KX E N st rd Q K e F L
end
def zlK (sp:List Nat):Option Nat→Bool
 | some d=>sp.any fun x=>Nat.beq x d
 | none=>false
def vgl (ops:Array Oper) (F:VK):Option (Nat×Bool)→Option Bool
 | none=>some true
 | some g=>match ops.toList[g.1]? with
  | none=>none
  | some o=>match o.dst with
   | none=>none
   | some d=>match ak F d with
    | some (.lit c)=>some (c==g.2)
    | some (.tup _)=>some false
    | _=>none
noncomputable def zjZ (tb:Tab) (N:Nat) (st:List Nat) (z:Bool) (sp:List Nat) (F:VK) (L:VS) (o:Oper):Option VOut :=
 bif zI o.dst N && !zlK sp o.dst then (match zmx tb F L o.op with
  | some r=>some ⟨r.1,zL o.dst r.2 F,.junk,L,0,0⟩
  | none=>match zgH tb F L z o.op with
   | some out=>bif !Nat.beq out.kind 2||st.all (fun i=>!Nat.beq i out.at_) then some ⟨out.ob,zL o.dst out.a out.F,.junk,out.L,out.kind,out.at_⟩ else none
   | none=>none) else none
noncomputable def za7 (tb:Tab) (N:Nat) (st:List Nat) (z:Bool) (sp:List Nat) (ops:Array Oper) (F:VK) (L:VS) (o:Oper):Option VOut:=match vgl ops F o.guard with
 | none=>none
 | some true=>zjZ tb N st z sp F L o
 | some false=>bif zI o.dst N then some ⟨[],zL o.dst (.tup []) F,.junk,L,0,0⟩ else none
noncomputable def zmt (tb:Tab) (N:Nat) (st:List Nat) (z:Bool) (sp:List Nat):VSt→Option (List Prop×VSt)
 | .code (.seq a b) K F L=>some ([],.code a (.seq b::K) F L)
 | .code (.block id b) K F L=>some ([],.code b (.block id::K) F L)
 | .code .skip K F L=>some ([],.ex .normal K F L)
 | .code .ret K F L=>some ([],.ex .ret K F L)
 | .code (.exit id) K F L=>some ([],.ex (.exit id) K F L)
 | .code (.region _ ops false) K F L=>some ([],.ops ops ops.toList K F L)
 | .code (.region _ ops true) K F L=>some ([],.dops ops (z4M ops.toList []) (ksL L L) ops.toList 0 K F L)
 | .code (.cond c a b) K F L=>match avr F c with
  | some (.lit true)=>some ([],.code a K F L)
  | some (.lit false)=>some ([],.code b K F L)
  | _=>none
 | .code _ _ _ _=>none
 | .ops _ [] K F L=>some ([],.ex .normal K F L)
 | .ops ops (o::rest) K F L=>match za7 tb N st z sp ops F L o with
  | some out=>some (out.ob,.ops ops rest K out.F out.L)
  | none=>none
 | .dops _ _ _ [] _ K F L=>some ([],.ex .normal K F L)
 | .dops ops bs ks (o::rest) i K F L=>match za7 tb N st z sp ops F L o with
  | some out=>bif z7E ops bs ks i F o.op out then some (out.ob,.dops ops bs (zkU ks out.kind out.at_ L out.L i) rest (i+1) K out.F out.L) else none
  | none=>none
 | .ex .normal (.seq b::K) F L=>some ([],.code b K F L)
 | .ex (.exit k) (.seq _::K) F L=>some ([],.ex (.exit k) K F L)
 | .ex .ret (.seq _::K) F L=>some ([],.ex .ret K F L)
 | .ex (.exit k) (.block id::K) F L=>bif Nat.beq k id then some ([],.ex .normal K F L) else some ([],.ex (.exit k) K F L)
 | .ex .normal (.block _::K) F L=>some ([],.ex .normal K F L)
 | .ex .ret (.block _::K) F L=>some ([],.ex .ret K F L)
 | .ex (.exit k) (.inv _::K) F L=>some ([],.ex (.exit k) K F L)
 | .ex .ret (.inv _::K) F L=>some ([],.ex .ret K F L)
 | .ex _ _ _ _=>none
noncomputable def zd0 (tb:Tab) (N:Nat) (st:List Nat) (z:Bool) (sp:List Nat):Nat→List Prop→VSt→List Prop×VSt
 | 0,acc,s=>(acc,s)
 | n+1,acc,s=>match zmt tb N st z sp s with
  | none=>(acc,s)
  | some ([],s')=>zd0 tb N st z sp n acc s'
  | some (p::ps,s')=>zd0 tb N st z sp n (acc++(p::ps)) s'
def AllP:List Prop→Prop
 | []=>True
 | [p]=>p
 | p::l=>p∧AllP l
theorem AllP.mem:∀ {l:List Prop},AllP l→∀ P∈l,P
 | [],_,P,h=>by cases h
 | [p],hp,P,h=>by rw [List.mem_singleton.1 h];exact hp
 | p::q::l,hp,P,h=>by
  rcases List.mem_cons.1 h with rfl | h
  ·exact hp.1
  ·exact AllP.mem (l:=q::l) hp.2 P h
section
variable {E:Env} {N:Nat} {st:List Nat} {rd:Option Nat} {Q:zK} {tb:Tab} {z:Bool} {sp:List Nat}
theorem zbu:∀ (L:VS) (r:Nat→Nat),z4j r []++z2V [] L=L:=by
 intro L r
 show z2V [] L=L
 induction L with
 | nil=>rfl
 | cons p l ih=>obtain ⟨i,v⟩:=p;show (i,v)::z2V [] l=_;rw [ih]
mutual
theorem z08:∀ {r:Nat→Nat} (a:AV),a.only (fun _=>false)=true→a.ren r=a
 | r,.p _,_=>rfl
 | r,.agg cs,h=>by simp only [zgE,z2X (r:=r) cs h]
 | r,.ref _ _,h=>by cases h
 | r,.el _ _ _ _,h=>by cases h
 | r,.sl _ _ _ _ _ _,h=>by cases h
 | r,.fn _ a b,h=>by
  simp only [za2,yw] at h
  simp only [zjN,z2X (r:=r) a h.1,z2X (r:=r) b h.2]
 | r,.map _,h=>by cases h
 | r,.tup vs,h=>by simp only [zgD,z2X (r:=r) vs h]
 | r,.yld _,h=>by cases h
 | r,.acc _ _ _ _,h=>by cases h
 | r,.lit _,_=>rfl
 | r,.junk,_=>rfl
theorem z2X:∀ {r:Nat→Nat} (l:List AV),z06 (fun _=>false) l=true→z0N r l=l
 | r,[],_=>rfl
 | r,a::l,h=>by
  simp only [z6g,yw] at h
  simp only [zcR,z08 (r:=r) a h.1,z2X (r:=r) l h.2]
end
theorem z8k (l:List AV) (h:z06 (olds []) l=true):z0N (rnk []) l=l:=z2X l h
theorem z1q {ops:Array Oper} {F:VK} {g:Option (Nat×Bool)} {b:Bool} (h:vgl ops F g=some b):vgd ops F g=some b:=by
 cases g with
 | none=>exact h
 | some g =>
  simp only [vgl] at h
  simp only [vgd]
  split at h
  ·cases h
  ·rename_i o ho
   try rw [ho]
   try simp only
   split at h
   ·cases h
   ·rename_i d hd
    try rw [hd]
    try simp only
    split at h
    ·rename_i c hc;(try rw [hc]);exact h
    ·rename_i c hc;(try rw [hc]);exact h
    ·cases h
theorem zeh {F:VK} {L:VS} {o:Oper} {out:VOut} (h:zjZ tb N st z sp F L o=some out):zI o.dst N=true ∧
  ((∃ r,zmx tb F L o.op=some r∧out=⟨r.1,zL o.dst r.2 F,.junk,L,0,0⟩)∨∃ q,zgH tb F L z o.op=some q∧(Nat.beq q.kind 2=true→(st.all fun i=>!Nat.beq i q.at_)=true)∧out=⟨q.ob,zL o.dst q.a q.F,.junk,q.L,q.kind,q.at_⟩):=by
 unfold zjZ at h
 cases hb:(zI o.dst N && !zlK sp o.dst) with
 | false=>rw [hb] at h;cases h
 | true =>
  rw [hb] at h
  simp only [yw] at hb
  refine ⟨hb.1,?_⟩
  simp only [cond_true] at h
  split at h
  ·rename_i r hr;cases h;exact .inl ⟨r,hr,rfl⟩
  ·split at h
   ·rename_i q hq
    cases hk:(!Nat.beq q.kind 2||st.all fun i=>!Nat.beq i q.at_) with
    | false=>rw [hk] at h;cases h
    | true =>
     rw [hk] at h;cases h
     refine .inr ⟨q,hq,fun h2=>?_,rfl⟩
     rw [h2] at hk;simpa using hk
   ·cases h
theorem z9t {ops:Array Oper} {F:VK} {L:VS} {o:Oper} {out:VOut} (h:za7 tb N st z sp ops F L o=some out) :
  (vgd ops F o.guard=some true∧zjZ tb N st z sp F L o=some out)∨(vgd ops F o.guard=some false∧zI o.dst N=true∧out=⟨[],zL o.dst (.tup []) F,.junk,L,0,0⟩):=by
 unfold za7 at h
 split at h
 ·cases h
 ·rename_i hg;exact .inl ⟨z1q hg,h⟩
 ·rename_i hg
  cases hd:zI o.dst N with
  | false=>rw [hd] at h;cases h
  | true=>rw [hd] at h;cases h;exact .inr ⟨z1q hg,rfl,rfl⟩
theorem zc8 {ks:List (Nat×Option Nat)} {L:VS} {i:Nat}:zkU ks 0 0 L L i=ks:=by
 show (bif zit L L&&_ then _ else ks)=ks
 have:zit L L=false:=by
  cases L with
  | nil=>rfl
  | cons p l =>
   obtain ⟨n,v⟩:=p
   show Nat.beq n (nx ((n,v)::l))=false
   exact z0B (Nat.ne_of_lt (zg5 (v:=v) (by rw [zA,if_pos rfl])))
 rw [this];rfl
theorem zee (hT:zM E tb=true) {s s':VSt} {obs:List Prop} (h:zmt tb N st z sp s=some (obs,s')) (ho:∀ P∈obs,P) (hs:s'.H E N st rd Q):s.H E N st rd Q:=by
 have hreg:∀ id ops draw K F L,VSt.H E N st rd Q (.code (.region id ops draw) K F L)=VW E N st rd (.region id ops draw) F L (KX E N st rd Q K):=fun _ _ _ _ _ _=>rfl
 unfold zmt at h
 split at h <;> (try cases h)
 ·exact VW.seq (VW.mono hs fun e F L hk=>by cases e <;> exact hk)
 ·exact VW.block (VW.mono hs fun e F L hk=>by cases e <;> exact hk)
 ·exact VW.skip hs
 ·exact VW.ret hs
 ·exact VW.exit hs
 ·exact VW.region hs
 ·exact VW.draw hs
 ·rename_i c a b K F L
  split at h
  ·rename_i hc
   cases h
   exact VW.cond (t:=true) (by unfold av;rw [hc];rfl) (fun _=>hs) (fun e=>by cases e)
  ·rename_i hc
   cases h
   exact VW.cond (t:=false) (by unfold av;rw [hc];rfl) (fun e=>by cases e) (fun _=>hs)
  ·cases h
 ·exact VO.nil hs
 ·rename_i ops o rest K F L
  split at h
  ·rename_i out hout
   cases h
   rcases z9t hout with ⟨hg,hgo⟩ | ⟨hg,hd,rfl⟩
   ·obtain ⟨hd,h3⟩:=zeh hgo
    rcases h3 with ⟨r,hr,rfl⟩ | ⟨q,hq,hk,rfl⟩
    ·exact VO.keep hT hg hd hr ho hs
    ·exact VO.make hT hg hd hq ho hk hs
   ·exact VO.drop hg hd hs
  ·cases h
 ·exact VD0.nil hs
 ·rename_i ops bs ks o rest i K F L
  split at h
  ·rename_i out hout
   cases hw:z7E ops bs ks i F o.op out with
   | false=>rw [hw] at h;cases h
   | true =>
    rw [hw] at h
    cases h
    rcases z9t hout with ⟨hg,hgo⟩ | ⟨hg,hd,rfl⟩
    ·obtain ⟨hd,h3⟩:=zeh hgo
     rcases h3 with ⟨r,hr,rfl⟩ | ⟨q,hq,hk,rfl⟩
     ·exact VD0.keep hT hg hd hr ho (by
      change VSt.H E N st rd Q (.dops ops bs (zkU ks 0 0 L L i) rest (i+1) K _ L) at hs
      rw [zc8] at hs;exact hs)
     ·exact VD0.make hT hg hd hq ho hk hw hs
    ·exact VD0.drop hg hd (by
     change VSt.H E N st rd Q (.dops ops bs (zkU ks 0 0 L L i) rest (i+1) K _ L) at hs
     rw [zc8] at hs;exact hs)
  ·cases h
 ·exact hs
 ·exact hs
 ·exact hs
 ·rename_i k id K F L
  show if k=id then _ else _
  cases hb:Nat.beq k id with
  | true =>
   rw [hb] at h;cases h
   rw [if_pos (zm hb)];exact hs
  | false =>
   rw [hb] at h;cases h
   rw [if_neg (fun e=>by subst e;rw [Nat.beq_refl] at hb;cases hb)];exact hs
 ·exact hs
 ·exact hs
 ·exact hs
 ·exact hs
theorem zcZ (hT:zM E tb=true):∀ (n:Nat) {acc obs:List Prop} {s s':VSt},zd0 tb N st z sp n acc s=(obs,s')→(∀ P∈obs,P)→s'.H E N st rd Q→s.H E N st rd Q∧∀ P∈acc,P
 | 0,acc,obs,s,s',h,ho,hs=>by cases h;exact ⟨hs,ho⟩
 | n+1,acc,obs,s,s',h,ho,hs=>by
  unfold zd0 at h
  split at h
  ·cases h;exact ⟨hs,ho⟩
  ·rename_i s1 h1
   obtain ⟨h2,h3⟩:=zcZ hT n h ho hs
   exact ⟨zee hT h1 (fun P hP=>by cases hP) h2,h3⟩
  ·rename_i p ps s1 h1
   obtain ⟨h2,h3⟩:=zcZ hT n h ho hs
   exact ⟨zee hT h1 (fun P hP=>h3 P (List.mem_append_right _ hP)) h2,fun P hP=>h3 P (List.mem_append_left _ hP)⟩
theorem VSt.run (hT:zM E tb=true) (z:Bool) (sp:List Nat) (n:Nat) {obs:List Prop} {s s':VSt} (h:zd0 tb N st z sp n [] s=(obs,s')) (ho:AllP obs) (hs:s'.H E N st rd Q):s.H E N st rd Q :=
 (zcZ hT n h ho.mem hs).1
theorem VSt.cond {c:Operand} {a b:Code} {K:List KI} {F:VK} {L:VS} {t:Bool} (hc:av F c=some (.p (.bool t))) (h1:t=true→VSt.H E N st rd Q (.code a K F L)) (h2:t=false→VSt.H E N st rd Q (.code b K F L)):VSt.H E N st rd Q (.code (.cond c a b) K F L):=VW.cond hc h1 h2
theorem VSt.guard {ops:Array Oper} {o:Oper} {rest:List Oper} {K:List KI} {F:VK} {L:VS} {t:Bool} (hg:vgd ops F o.guard=some t) (hd:zI o.dst N=true) (h1:t=true→VSt.H E N st rd Q (.ops ops (⟨o.dst,o.op,o.type,o.pos,o.after,none⟩::rest) K F L)) (h2:t=false→VSt.H E N st rd Q (.ops ops rest K (zL o.dst (.tup []) F) L)):VSt.H E N st rd Q (.ops ops (o::rest) K F L):=by
 cases t with
 | false=>exact VO.drop hg hd (h2 rfl)
 | true =>
  have h3:=h1 rfl
  intro T S Z j k1 k2 k3 k4
  obtain ⟨n,r,k5,k6⟩:=h3 T S Z j k1 k2 k3 k4
  refine ⟨n,r,fun m hm=>?_,k6⟩
  rw [←k5 m hm]
  show ob (zq E _ _ ops o T S) _=ob (zq E _ _ ops ⟨o.dst,o.op,o.type,o.pos,o.after,none⟩ T S) _
  unfold zq
  rw [z1r hg k3];rfl
theorem z02 {c:Code} {K:List KI} {F F0:VK} {L L0:VS} (hw:Vw E st F L F0 L0) (h:VSt.H E N st rd Q (.code c K F0 L0)):VSt.H E N st rd Q (.code c K F L):=by
 intro T S Z j h1 h2 h3 h4
 obtain ⟨Z',j',k1,k2,k3,k4⟩:=hw T S Z j h2 h3
 obtain ⟨n,r,h5,F',L',Z2,j2,h6,h7⟩:=h T S Z' j' h1 k1 k2 h4
 exact ⟨n,r,h5,F',L',Z2,j2,⟨h6.n,h6.sr,h6.fr,k3.trans h6.ex,h6.low,k4.trans h6.stay⟩,h7⟩
theorem zf {ops:Array Oper} {rest:List Oper} {K:List KI} {F F0:VK} {L L0:VS} (hw:Vw E st F L F0 L0) (h:VSt.H E N st rd Q (.ops ops rest K F0 L0)):VSt.H E N st rd Q (.ops ops rest K F L):=by
 intro T S Z j h1 h2 h3 h4
 obtain ⟨Z',j',k1,k2,k3,k4⟩:=hw T S Z j h2 h3
 obtain ⟨n,r,h5,F',L',Z2,j2,h6,h7⟩:=h T S Z' j' h1 k1 k2 h4
 exact ⟨n,r,h5,F',L',Z2,j2,⟨h6.n,h6.sr,h6.fr,k3.trans h6.ex,h6.low,k4.trans h6.stay⟩,h7⟩
theorem Vw.tell {F:VK} {L:VS} {d:Nat} {t:Bool} (h:ak F d=some (.p (.bool t))):Vw E st F L ((d,.lit t)::F) L:=fun T S Z j h1 h2=>⟨Z,j,h1,fun x a ha=>by
 simp only [ak] at ha
 by_cases e:d=x
 ·subst e
  simp only [Nat.beq_refl,cond_true,Option.some.injEq] at ha
  subst ha
  obtain ⟨v,h3,h4⟩:=h2 d _ h
  cases h4 with
  | p h4=>cases h4;exact ⟨_,h3,.lit t⟩
 ·rw [bne e] at ha
  exact h2 x a ha,Ex.refl _ _ _,Stay.refl _ _⟩
theorem zb {ops:Array Oper} {rest:List Oper} {K:List KI} {F:VK} {L:VS} (d:Nat) {t:Bool} (h:ak F d=some (.p (.bool t))) (h1:t=true→VSt.H E N st rd Q (.ops ops rest K ((d,.lit true)::F) L)) (h2:t=false→VSt.H E N st rd Q (.ops ops rest K ((d,.lit false)::F) L)):VSt.H E N st rd Q (.ops ops rest K F L):=by
 cases t with
 | true=>exact zf (Vw.tell h) (h1 rfl)
 | false=>exact zf (Vw.tell h) (h2 rfl)
theorem z05 {ops:Array Oper} {bs:List Nat} {ks:List (Nat×Option Nat)} {i:Nat} {rest:List Oper} {K:List KI} {F:VK} {L:VS} (d:Nat) {t:Bool} (h:ak F d=some (.p (.bool t))) (h1:t=true→VSt.H E N st rd Q (.dops ops bs ks rest i K ((d,.lit true)::F) L)) (h2:t=false→VSt.H E N st rd Q (.dops ops bs ks rest i K ((d,.lit false)::F) L)):VSt.H E N st rd Q (.dops ops bs ks rest i K F L):=by
 have key:VSt.H E N st rd Q (.dops ops bs ks rest i K ((d,.lit t)::F) L):=by
  cases t with
  | true=>exact h1 rfl
  | false=>exact h2 rfl
 intro T S Z j D r0 k1 k2 k3 k4 k5 k6 k7
 obtain ⟨n,r,k8,F',L',Z2,j2,k9,k10⟩:=key T S Z j D r0 k1 k2 (by
  intro x a ha
  simp only [ak] at ha
  by_cases e:d=x
  ·subst e
   simp only [Nat.beq_refl,cond_true,Option.some.injEq] at ha
   subst ha
   obtain ⟨v,h3,h4⟩:=k3 d _ h
   cases h4 with
   | p h4=>cases h4;exact ⟨_,h3,.lit t⟩
  ·rw [bne e] at ha
   exact k3 x a ha) k4 k5 k6 k7
 exact ⟨n,r,k8,F',L',Z2,j2,⟨k9.n,k9.sr,k9.fr,k9.ex,k9.low,k9.stay⟩,k10⟩
theorem VSt.loop {α : Type} {b:Code} {K:List KI} (I : α → VK→VS→Prop) (μ : α → Nat) (x : α) {F F0:VK} {L L0:VS} (hw:Vw E st F L F0 L0) (hI:I x F0 L0)
  (hb:∀ x F L,I x F L→VSt.H E N st rd Q (.code b (.inv (fun F' L'=>∃ y F0 L0,Vw E st F' L' F0 L0∧I y F0 L0∧μ y < μ x)::K) F L)):VSt.H E N st rd Q (.code (.loop b) K F L) :=
 VW.view hw (VW.loop I μ (fun x F L hI=>VW.mono (hb x F L hI) fun e F' L' hk=>by cases e <;> exact hk) x F0 L0 hI)
theorem z6c {ops:Array Oper} {o:Oper} {rest:List Oper} {K:List KI} {F:VK} {L:VS} {c:Call} {f:Operand} {g:FuncId} {first cap args:List AV} {r:AV} (hP:VP E g (first++(args++cap)) r) (hg:vgl ops F o.guard=some true) (hd:zI o.dst N=true)
  (hop:o.op = .call c) (hc:c.callee = .value f) (hf:av F f=some (.fn g first cap)) (ha:avs F c.args.toList=some args) (hon:z06 (olds []) (first++(args++cap))=true)
  (h:VSt.H E N st rd Q (.ops ops rest K (zL o.dst r F) L)):VSt.H E N st rd Q (.ops ops (o::rest) K F L):=by
 refine VO.call (ps:=[]) (Lc:=[]) (stc:=[]) (z1q hg) hd hop hc hf ha rfl rfl rfl hon (z8k _ hon) hP.2 ?_
 rintro a L' ⟨rfl,rfl⟩
 rw [z08 _ hP.1,zbu]
 exact h
theorem zgx {ops:Array Oper} {bs:List Nat} {ks:List (Nat×Option Nat)} {i:Nat} {o:Oper} {rest:List Oper} {K:List KI} {F:VK} {L:VS} {c:Call} {f:Operand} {g:FuncId} {first cap args:List AV} {r:AV} (hP:VP E g (first++(args++cap)) r) (hg:vgl ops F o.guard=some true) (hd:zI o.dst N=true)
  (hop:o.op = .call c) (hc:c.callee = .value f) (hf:av F f=some (.fn g first cap)) (ha:avs F c.args.toList=some args) (hon:z06 (olds []) (first++(args++cap))=true)
  (h:VSt.H E N st rd Q (.dops ops bs ks rest (i+1) K (zL o.dst r F) L)):VSt.H E N st rd Q (.dops ops bs ks (o::rest) i K F L):=by
 refine VD0.call (ps:=[]) (Lc:=[]) (stc:=[]) (z1q hg) hd hop hc hf ha rfl rfl rfl hon (z8k _ hon) hP.2 rfl ?_
 rintro a L' ⟨rfl,rfl⟩
 rw [z08 _ hP.1,zbu]
 exact h
end
end
noncomputable section
def zm7 (i n:Nat) (f:Nat→List PV) (t:TypeId) (a:AV):AV:=match a with
 | .sl k sz off m c ex=>bif Nat.beq k i then .p (.lst t false m fun x=>f (off+x)) else .sl k sz off m c ex
 | .acc nb k sz m=>bif Nat.beq k i then .p (.lst t (nb&&Nat.beq m 0) m f) else .acc nb k sz m
 | a=>z6W i a
def znN (fz:AV→AV):List AV→List AV
 | []=>[]
 | a::l=>fz a::znN fz l
def zqW (fz:AV→AV) (a:AV):AV:=match a with
 | .agg cs=>.agg (znN fz cs)
 | .tup cs=>.tup (znN fz cs)
 | .fn g x y=>.fn g (znN fz x) (znN fz y)
 | a=>fz a
def zm5 (fz:AV→AV):VK→VK
 | []=>[]
 | (x,a)::l=>(x,zqW fz a)::zm5 fz l
def znM (fz:AV→AV):List (Nat×AV)→List (Nat×AV)
 | []=>[]
 | (i,a)::l=>(i,fz a)::znM fz l
def zrC (fz:AV→AV):VB→VB
 | .cells cs ty=>.cells (znN fz cs) ty
 | .arr m sz g ty=>.arr m sz g ty
 | .loop st pd G N ps asg body=>.loop st pd (zm5 fz G) N ps asg body
 | .acc m sz g ty=>.acc m sz g ty
 | .mapI f=>.mapI f
 | .hdr n p xs t=>.hdr n p (znM fz xs) t
 | .oarr w n sz f t=>.oarr w n sz f t
 | .mapA m p xs=>.mapA m p (znM fz xs)
 | .itr o=>.itr o
def zm4 (fz:AV→AV):VS→VS
 | []=>[]
 | (k,v)::l=>(k,zrC fz v)::zm4 fz l
def zqe (i:Nat) (ps:List PV) (a:AV):AV:=match a with
 | .ref k off=>bif Nat.beq k i then .p (.fp ps off) else .ref k off
 | a=>z6W i a
def fo1 (i n s:Nat) (a:AV):List Prop:=match a with
 | .sl k sz off m c _=>bif Nat.beq k i then [off+m≤n,m≤c,sz=s] else []
 | .acc _ k sz m=>bif Nat.beq k i then [m≤n,sz=s] else []
 | _=>[]
def fo2 (_:AV):List Prop:=[]
def foL (fo:AV→List Prop):List AV→List Prop
 | []=>[]
 | a::l=>fo a++foL fo l
def foA (fo:AV→List Prop) (a:AV):List Prop:=match a with
 | .agg cs=>foL fo cs
 | .tup cs=>foL fo cs
 | .fn _ x y=>foL fo x++foL fo y
 | a=>fo a
def foF (fo:AV→List Prop):VK→List Prop
 | []=>[]
 | (_,a)::l=>foA fo a++foF fo l
def foX (fo:AV→List Prop):List (Nat×AV)→List Prop
 | []=>[]
 | (_,a)::l=>fo a++foX fo l
def foB (fo:AV→List Prop):VB→List Prop
 | .cells cs _=>foL fo cs
 | .arr _ _ _ _=>[]
 | .loop _ _ G _ _ _ _=>foF fo G
 | .acc _ _ _ _=>[]
 | .mapI _=>[]
 | .hdr _ _ xs _=>foX fo xs
 | .oarr _ _ _ _ _=>[]
 | .mapA _ _ xs=>foX fo xs
 | .itr _=>[]
def foS (fo:AV→List Prop):VS→List Prop
 | []=>[]
 | (_,v)::l=>foB fo v++foS fo l
section
variable {E:Env} {S:St} {Z:Nat→Prop} {j:Nm} {L:VS} {F:VK} {T:Fr} {i n sz b:Nat} {f:Nat→List PV} {t:TypeId}
abbrev ZB (Z:Nat→Prop) (b:Nat):Nat→Prop:=fun c=>Z c∨c=b
theorem zbh:ZLe E S Z S (ZB Z b):=fun c hc=>⟨.inl hc,rfl⟩
theorem ziP (hr:E.rom.get b=none) (hj:j i=some b) (hb:BR E S Z j b (.arr n sz f t)) {a:AV} {v:Value} (hv:VR E S Z j a v) (ho:∀ P∈fo1 i n sz a,P):VR E S (ZB Z b) (jrm j i) (zm7 i n f t a) v:=by
 unfold zm7
 split
 ·rename_i k sz' off m c ex
  cases hk:Nat.beq k i with
  | false =>
   simp only [cond_false]
   exact hv.mono (g:=fun x=>!Nat.beq x i) zbh (fun x b' hg hx=>z1l x b' (fun e=>by subst e;simp at hg) hx) (by show (!Nat.beq k i)=true;rw [hk];rfl)
  | true =>
   simp only [cond_true]
   have:=zm hk;subst this
   simp only [fo1,Nat.beq_refl,cond_true] at ho
   have o1:=ho (off+m≤n) (by simp)
   have o2:=ho (m≤c) (by simp)
   have o3:=ho (sz'=sz) (by simp)
   subst o3
   cases hv with
   | sl h =>
    rw [hj] at h;cases h
    obtain ⟨vs,g,h1,h2,h3,h4⟩:=hb
    refine .p (.lst (sz:=sz') (fun x=>g (off+x)) (.inr rfl) ((z2I hr).trans h1) o2 ?_ (.inr ⟨rfl,hr⟩) (fun x hx=>?_) (fun x hx=>(h4 _ (by omega)).mono zbh))
    ·rw [h2];exact Nat.mul_le_mul_right _ (by omega)
    ·rw [←Nat.add_mul];exact h3 _ (by omega)
 ·rename_i nb k sz' m
  cases hk:Nat.beq k i with
  | false =>
   simp only [cond_false]
   exact hv.mono (g:=fun x=>!Nat.beq x i) zbh (fun x b' hg hx=>z1l x b' (fun e=>by subst e;simp at hg) hx) (by show (!Nat.beq k i)=true;rw [hk];rfl)
  | true =>
   simp only [cond_true]
   have:=zm hk;subst this
   simp only [fo1,Nat.beq_refl,cond_true] at ho
   have o1:=ho (m≤n) (by simp)
   have o3:=ho (sz'=sz) (by simp)
   subst o3
   cases hv with
   | accN=>exact .p (.nil _ _)
   | accE h1 h2 h3=>exact .p (.lst (sz:=0) (fun _=>[]) (.inl h1) h2 (yu _) h3 (.inl rfl) (fun k hk=>absurd hk (Nat.not_lt_zero k)) (fun k hk=>absurd hk (Nat.not_lt_zero k)))
   | accC h =>
    rename_i m b'
    rw [hj] at h;cases h
    obtain ⟨vs,g,h1,h2,h3,h4⟩:=hb
    show VR E S _ _ (.p (.lst t (nb&&false) (m+1) f)) _
    rw [Bool.and_false]
    refine .p (.lst (sz:=sz') g (.inr rfl) ((z2I hr).trans h1) (ym _) (yu _) (.inr ⟨rfl,hr⟩) (fun x hx=>?_) (fun x hx=>(h4 _ (by omega)).mono zbh))
    rw [Nat.zero_add];exact h3 _ (by omega)
 ·exact z2u zbh z1l hv
theorem znP (ho0:n=0) {a:AV} {v:Value} (hv:VR E S Z j a v) (ho:∀ P∈fo1 i n sz a,P) (hsl:∀ k sz' o m c ex,a = .sl k sz' o m c ex→Nat.beq k i=false):VR E S Z (jrm j i) (zm7 i n f t a) v:=by
 have zr:ZLe E S Z S Z:=fun c hc=>⟨hc,rfl⟩
 unfold zm7
 split
 ·rename_i k sz' off m c ex
  rw [hsl _ _ _ _ _ _ rfl]
  simp only [cond_false]
  exact hv.mono (g:=fun x=>!Nat.beq x i) zr (fun x b' hg hx=>z1l x b' (fun e=>by subst e;simp at hg) hx) (by show (!Nat.beq k i)=true;rw [hsl _ _ _ _ _ _ rfl];rfl)
 ·rename_i nb k sz' m
  cases hk:Nat.beq k i with
  | false =>
   simp only [cond_false]
   exact hv.mono (g:=fun x=>!Nat.beq x i) zr (fun x b' hg hx=>z1l x b' (fun e=>by subst e;simp at hg) hx) (by show (!Nat.beq k i)=true;rw [hk];rfl)
  | true =>
   simp only [cond_true]
   have:=zm hk;subst this
   simp only [fo1,Nat.beq_refl,cond_true] at ho
   have o1:=ho (m≤n) (by simp)
   cases hv with
   | accN=>exact .p (.nil _ _)
   | accE h1 h2 h3=>exact .p (.lst (sz:=0) (fun _=>[]) h1 h2 (yu _) h3 (.inl rfl) (fun k hk=>absurd hk (Nat.not_lt_zero k)) (fun k hk=>absurd hk (Nat.not_lt_zero k)))
   | accC h=>omega
 ·exact z2u zr z1l hv
def fo3 (i n s:Nat) (a:AV):List Prop:=match a with
 | .sl k _ _ _ _ _=>bif Nat.beq k i then [False] else []
 | .acc _ k sz m=>bif Nat.beq k i then [m≤n,sz=s] else []
 | _=>[]
theorem zrD {a:AV} (h:∀ P∈fo3 i n sz a,P):∀ P∈fo1 i n sz a,P:=by
 cases a with
 | sl k sz' off m c ex =>
  change ∀ P∈(bif Nat.beq k i then [False] else []),P at h
  change ∀ P∈(bif Nat.beq k i then [off+m≤n,m≤c,sz'=sz] else []),P
  cases hk:Nat.beq k i with
  | false=>intro P hP;simp only [cond_false] at hP;cases hP
  | true=>rw [hk] at h;exact (h False (by simp)).elim
 | _=>exact h
theorem zef:∀ {ps:List PV} {vs:List Value},VRs E S Z j (ps.map .p) vs→PRs E S Z ps vs
 | [],_,.nil=>.nil
 | _::_,_,.cons (.p h) hl=>.cons h (zef hl)
theorem znO {ps:List PV} (hr:E.rom.get b=none) (hj:j i=some b) (hb:BR E S Z j b (.cells (ps.map .p) t)) {a:AV} {v:Value} (hv:VR E S Z j a v) (_:∀ P∈fo2 a,P):VR E S (ZB Z b) (jrm j i) (zqe i ps a) v:=by
 unfold zqe
 split
 ·rename_i k off _
  cases hk:Nat.beq k i with
  | false =>
   simp only [cond_false]
   exact hv.mono (g:=fun x=>!Nat.beq x i) zbh (fun x b' hg hx=>z1l x b' (fun e=>by subst e;simp at hg) hx) (by show (!Nat.beq k i)=true;rw [hk];rfl)
  | true =>
   simp only [cond_true]
   have:=zm hk;subst this
   cases hv with
   | ref h =>
    rw [hj] at h;cases h
    obtain ⟨vs,h1,h2,h3⟩:=hb
    have h4:=zef h3
    have hl:ps.length=vs.length:=by have:=h3.length;simpa using this
    have key:VR E S (ZB Z b) (jrm j k) (.p (.fp ps off)) (.pointer (some ⟨b,0+off,none⟩)):=.p (.fp (.inr rfl) ((z2I hr).trans h1) (by rw [hl];exact z4h _) (h4.mono zbh))
    rw [Nat.zero_add] at key
    exact key
 ·exact z2u zbh z1l hv
variable {fz:AV→AV} {fo:AV→List Prop} {Z':Nat→Prop}
theorem z6G (h1:∀ {a:AV} {v:Value},VR E S Z j a v→(∀ P∈fo a,P)→VR E S Z' (jrm j i) (fz a) v):∀ {a:List AV} {v:List Value},VRs E S Z j a v→(∀ P∈foL fo a,P)→VRs E S Z' (jrm j i) (znN fz a) v
 | _,_,.nil,_=>.nil
 | _,_,.cons h hl,ho=>.cons (h1 h fun P hP=>ho P (List.mem_append_left _ hP)) (z6G h1 hl fun P hP=>ho P (List.mem_append_right _ hP))
theorem ziO (h1:∀ {a:AV} {v:Value},VR E S Z j a v→(∀ P∈fo a,P)→VR E S Z' (jrm j i) (fz a) v) {a:AV} {v:Value} (hv:VR E S Z j a v) (ho:∀ P∈foA fo a,P):VR E S Z' (jrm j i) (zqW fz a) v:=by
 cases a with
 | agg cs=>cases hv with | agg hs h=>exact .agg hs (z6G h1 h ho)
 | tup cs=>cases hv with | tup h=>exact .tup (z6G h1 h ho)
 | fn g x y=>cases hv with | fn ha hb=>exact .fn (z6G h1 ha fun P hP=>ho P (List.mem_append_left _ hP)) (z6G h1 hb fun P hP=>ho P (List.mem_append_right _ hP))
 | _=>exact h1 hv ho
theorem ziD {p:Nat→PV} {k:Nat} {v:Value} (hz:ZLe E S Z S Z') (h1:∀ {a:AV} {v:Value},VR E S Z j a v→(∀ P∈fo a,P)→VR E S Z' (jrm j i) (fz a) v):∀ {xs:List (Nat×AV)},(∀ P∈foX fo xs,P)→VR E S Z j (z5L p xs k) v→VR E S Z' (jrm j i) (z5L p (znM fz xs) k) v
 | [],_,h=>by cases h with | p h=>exact .p (h.mono hz)
 | (q,a)::l,ho,h=>by
  simp only [znM,z5L] at h ⊢
  cases hb:Nat.beq q k with
  | true=>rw [hb] at h;exact h1 h fun P hP=>ho P (List.mem_append_left _ hP)
  | false=>rw [hb] at h;exact ziD hz h1 (fun P hP=>ho P (List.mem_append_right _ hP)) h
theorem ziG {p:Nat→Option PV} {k:Nat}:∀ {xs:List (Nat×AV)},zci p (znM fz xs) k=zci p xs k
 | []=>rfl
 | (i,a)::l=>by
  simp only [znM,zci]
  cases Nat.beq i k with
  | true=>rfl
  | false=>exact ziG
theorem ze7:∀ {F:VK} {k:Nat} {v:AV},ak (zm5 fz F) k=some v→(∀ P∈foF fo F,P)→∃ w,ak F k=some w∧v=zqW fz w∧∀ P∈foA fo w,P
 | [],k,v,h,_=>by cases h
 | (s,x)::l,k,v,h,ho=>by
  simp only [zm5,ak] at h ⊢
  by_cases e:s=k
  ·subst e
   simp only [Nat.beq_refl,cond_true] at h ⊢
   cases h;exact ⟨x,rfl,rfl,fun P hP=>ho P (List.mem_append_left _ hP)⟩
  ·rw [show Nat.beq s k=false by rw [Tr.beq_def];simpa using e] at h ⊢
   exact ze7 h fun P hP=>ho P (List.mem_append_right _ hP)
theorem zb9:∀ {L:VS} {k:Nat},(bk (zm4 fz L) k=none→bk L k=none)∧∀ v,bk (zm4 fz L) k=some v→(∀ P∈foS fo L,P)→∃ w,bk L k=some w∧v=zrC fz w∧∀ P∈foB fo w,P
 | [],k=>⟨fun _=>rfl,fun v h=>by cases h⟩
 | (s,x)::l,k=>by
  simp only [zm4]
  rw [zA,zA]
  by_cases e:k=s
  ·rw [if_pos e,if_pos e]
   refine ⟨fun h=>(by cases h),fun v h ho=>⟨x,rfl,?_,fun P hP=>ho P (List.mem_append_left _ hP)⟩⟩
   cases h;rfl
  ·rw [if_neg e,if_neg e]
   refine ⟨(zb9 (L:=l)).1,fun v h ho=>(zb9 (L:=l)).2 v h fun P hP=>ho P (List.mem_append_right _ hP)⟩
end
theorem z6M {E:Env} {st:List Nat} {F:VK} {L:VS} {fz:AV→AV} {fo:AV→List Prop} (i:Nat) (hz:∀ {S:St} {Z:Nat→Prop} {j:Nm},SR E S Z j L→∃ Z':Nat→Prop,(∀ c,Z c→Z' c)∧(∀ c,Z' c→Z c∨j i=some c) ∧
   ∀ {a:AV} {v:Value},VR E S Z j a v→(∀ P∈fo a,P)→VR E S Z' (jrm j i) (fz a) v) (hst:(st.all fun k=>!Nat.beq k i)=true) (ho:AllP (foF fo F++foS fo (rm L i))) :
  Vw E st F L (zm5 fz F) (zm4 fz (rm L i)):=by
 intro T S Z j hS hF
 obtain ⟨Z',z1,z2,hfz⟩:=hz hS
 have hoF:∀ P∈foF fo F,P:=fun P hP=>ho.mem P (List.mem_append_left _ hP)
 have hoS:∀ P∈foS fo (rm L i),P:=fun P hP=>ho.mem P (List.mem_append_right _ hP)
 have hzl:ZLe E S Z S Z':=fun c hc=>⟨z1 c hc,rfl⟩
 refine ⟨Z',jrm j i,⟨fun c hc=>?_,fun k c hk=>?_,fun k k' c hk hk'=>?_,fun k hk=>?_,fun k vb hk=>?_,fun c q hc=>⟨(hS.rom c q hc).1,fun k hk=>(by
  unfold jrm at hk
  split at hk
  ·cases hk
  ·exact (hS.rom c q hc).2 k hk)⟩⟩,fun x a ha=>?_,⟨ym _,fun _ _ _=>rfl,z1,fun c hc=>?_,fun k c hk=>?_,ym _,fun _ h _ _=>h⟩,fun k hk c hc=>?_⟩
 ·rcases z2 c hc with hc | hc
  ·exact hS.zlt c hc
  ·exact (hS.jlt i _ hc).1
 ·unfold jrm at hk
  split at hk
  ·cases hk
  ·rename_i e
   refine ⟨(hS.jlt k c hk).1,fun h=>?_⟩
   rcases z2 c h with h | h
   ·exact (hS.jlt k c hk).2 h
   ·exact e (hS.inj _ _ _ hk h)
 ·unfold jrm at hk hk'
  split at hk
  ·cases hk
  ·split at hk'
   ·cases hk'
   ·exact hS.inj _ _ _ hk hk'
 ·have:=(zb9 (fo:=fo) (fz:=fz)).1 hk
  rw [zb8] at this
  unfold jrm
  split at this
  ·rename_i e;rw [if_pos e]
  ·rename_i e;rw [if_neg e];exact hS.dom k this
 ·obtain ⟨w,h1,rfl,h2⟩:=(zb9 (fo:=fo) (fz:=fz)).2 vb hk hoS
  rw [zb8] at h1
  split at h1
  ·cases h1
  ·rename_i e
   rcases hS.blk' k w h1 with hv | ⟨c,h3,h4⟩
   ·exact .inl (by cases w <;> exact hv)
   refine .inr ⟨c,z1l k c e h3,?_⟩
   cases w with
   | cells cs ty =>
    obtain ⟨vs,h5,h6,h7⟩:=h4
    exact ⟨vs,h5,h6,z6G hfz h7 h2⟩
   | arr m s g ty =>
    obtain ⟨vs,gg,h5,h6,h7,h8⟩:=h4
    exact ⟨vs,gg,h5,h6,h7,fun x hx=>(h8 x hx).mono hzl⟩
   | loop st pd G N ps asg body =>
    obtain ⟨T0,h5,h6,h7⟩:=h4
    refine ⟨T0,h5,h6,fun x a ha=>?_⟩
    obtain ⟨w,k1,rfl,k2⟩:=ze7 (fo:=fo) ha h2
    obtain ⟨v,k3,k4⟩:=h7 x w k1
    exact ⟨v,k3,ziO hfz k4 k2⟩
   | acc m s g ty =>
    obtain ⟨vs,gg,h5,h6,h7,h8⟩:=h4
    exact ⟨vs,gg,h5,h6,h7,fun x hx=>(h8 x hx).mono hzl⟩
   | mapI f =>
    obtain ⟨l,h5,h6⟩:=h4
    exact ⟨l,h5,h6⟩
   | hdr m pp xs ty =>
    obtain ⟨vs,h5,h6,h7,h8⟩:=h4
    refine ⟨vs,h5,h6,h7,fun x hx=>?_⟩
    obtain ⟨v,h9,h10⟩:=h8 x hx
    exact ⟨v,h9,ziD hzl hfz h2 h10⟩
   | oarr w m s g ty =>
    obtain ⟨vs,gg,h5,h6,h7,h8⟩:=h4
    exact ⟨vs,gg,h5,h6,h7,fun x hx=>(h8 x hx).mono hzl⟩
   | mapA mm pp xs =>
    obtain ⟨l,h5,h6,h7⟩:=h4
    refine ⟨l,h5,h6,fun x=>?_⟩
    rw [ziG]
    exact ⟨(h7 x).1,fun v hv=>ziD hzl hfz h2 ((h7 x).2 v hv)⟩
   | itr o=>exact h4
 ·obtain ⟨w,h1,rfl,h2⟩:=ze7 (fo:=fo) ha hoF
  obtain ⟨v,h3,h4⟩:=hF x w h1
  exact ⟨v,h3,ziO hfz h4 h2⟩
 ·rcases z2 c hc with hc | hc
  ·exact .inl hc
  ·exact .inr (.inr ⟨i,hc⟩)
 ·unfold jrm at hk
  split at hk
  ·cases hk
  ·exact .inr ⟨k,hk⟩
 ·refine z1l k c (fun e=>?_) hc
  subst e
  have:=List.all_eq_true.1 hst k hk
  rw [Nat.beq_refl] at this;cases this
theorem SR.unrom {E:Env} {S:St} {Z:Nat→Prop} {j:Nm} {L:VS} {i b:Nat} (hS:SR E S Z j L) (hj:j i=some b):E.rom.get b=none:=by
 cases h:E.rom.get b with
 | none=>rfl
 | some q=>exact absurd hj ((hS.rom b q h).2 i)
theorem zm6 {E:Env} {L:VS} {fz:AV→AV} {fo:AV→List Prop} {i:Nat} {vb:VB} (hb:bk L i=some vb) (hv:¬ vb.void) (hfz:∀ {S:St} {Z:Nat→Prop} {j:Nm} {b:Nat},E.rom.get b=none→j i=some b→BR E S Z j b vb→∀ {a:AV} {v:Value},VR E S Z j a v→(∀ P∈fo a,P)→VR E S (ZB Z b) (jrm j i) (fz a) v) {S:St} {Z:Nat→Prop} {j:Nm} (hS:SR E S Z j L) :
  ∃ Z':Nat→Prop,(∀ c,Z c→Z' c)∧(∀ c,Z' c→Z c∨j i=some c)∧∀ {a:AV} {v:Value},VR E S Z j a v→(∀ P∈fo a,P)→VR E S Z' (jrm j i) (fz a) v:=by
 obtain ⟨b,hj,hbr⟩:=hS.blk i _ hb hv
 exact ⟨ZB Z b,fun c hc=>.inl hc,fun c hc=>hc.imp id (fun h=>by rw [h];exact hj),fun hv ho=>hfz (hS.unrom hj) hj hbr hv ho⟩
theorem Vw.freeze {E:Env} {st:List Nat} {F:VK} {L:VS} (i:Nat) {n sz:Nat} {f:Nat→List PV} {t:TypeId} (hb:bk L i=some (.arr n sz f t)) (hst:(st.all fun k=>!Nat.beq k i)=true) (ho:AllP (foF (fo1 i n sz) F++foS (fo1 i n sz) (rm L i))) :
  Vw E st F L (zm5 (zm7 i n f t) F) (zm4 (zm7 i n f t) (rm L i)):=z6M i (zm6 hb id (fun hr hj hb _ _ hv ho=>ziP hr hj hb hv ho)) hst ho
theorem z1K {E:Env} {st:List Nat} {F:VK} {L:VS} (i:Nat) {n sz:Nat} {f:Nat→List PV} {t:TypeId} (hb:bk L i=some (.acc n sz f t)) (hst:(st.all fun k=>!Nat.beq k i)=true) (ho:AllP (foF (fo3 i n sz) F++foS (fo3 i n sz) (rm L i))) :
  Vw E st F L (zm5 (zm7 i n f t) F) (zm4 (zm7 i n f t) (rm L i)):=by
 refine z6M (fo:=fo3 i n sz) i (fun {S Z j} hS=>?_) hst ho
 by_cases hn:n=0
 ·refine ⟨Z,fun c hc=>hc,fun c hc=>.inl hc,fun {a v} hv ho=>znP hn hv (zrD ho) ?_⟩
  rintro k sz' o m c ex rfl
  cases hk:Nat.beq k i with
  | false=>rfl
  | true=>exact (ho False (by show False∈(bif Nat.beq k i then [False] else []);rw [hk];simp)).elim
 ·obtain ⟨b,hj,hbr⟩:=hS.blk i _ hb hn
  exact ⟨ZB Z b,fun c hc=>.inl hc,fun c hc=>hc.imp id (fun h=>by rw [h];exact hj),fun hv ho=>ziP (hS.unrom hj) hj hbr hv (zrD ho)⟩
theorem z3H {E:Env} {st:List Nat} {F:VK} {L:VS} (i sz:Nat) (f:Nat→List PV) (t:TypeId) (hi:bk L i=none):Vw E st F L F ((i,.acc 0 sz f t)::L):=fun T S Z j h1 h2 =>
 ⟨Z,j,⟨h1.zlt,h1.jlt,h1.inj,fun k hk=>by
  rw [zA] at hk
  split at hk
  ·cases hk
  ·exact h1.dom k hk,fun k vb hk=>by
  rw [zA] at hk
  split at hk
  ·cases hk;exact .inl rfl
  ·exact h1.blk' k vb hk,h1.rom⟩,h2,Ex.refl _ _ _,Stay.refl _ _⟩
theorem z00 {E:Env} {st:List Nat} {F:VK} {L:VS} (i:Nat) (ps:List PV) {t:TypeId} (hb:bk L i=some (.cells (ps.map .p) t)) (hst:(st.all fun k=>!Nat.beq k i)=true) :
  Vw E st F L (zm5 (zqe i ps) F) (zm4 (zqe i ps) (rm L i)):=z6M (fo:=fo2) i (zm6 hb id (fun hr hj hb _ _ hv ho=>znO hr hj hb hv ho)) hst (by
 have h1:∀ l,foL fo2 l=[]:=fun l=>by induction l with | nil=>rfl | cons a l ih=>exact ih
 have h3:∀ F,foF fo2 F=[]:=fun F=>by
  induction F with
  | nil=>rfl
  | cons a l ih =>
   obtain ⟨k,v⟩:=a
   show foA fo2 v++foF fo2 l=[]
   rw [ih]
   cases v <;> first | rfl | (show foL fo2 _++[]=[];rw [h1];rfl) | (show (foL fo2 _++foL fo2 _)++[]=[];rw [h1,h1];rfl)
 have h2:∀ L,foS fo2 L=[]:=fun L=>by
  induction L with
  | nil=>rfl
  | cons a l ih =>
   obtain ⟨k,v⟩:=a
   show foB fo2 v++foS fo2 l=[]
   rw [ih]
   cases v with
   | cells cs t=>show foL fo2 cs++[]=[];rw [h1];rfl
   | arr _ _ _ _=>rfl
   | loop _ _ G _ _ _ _=>show foF fo2 G++[]=[];rw [h3];rfl
   | acc _ _ _ _=>rfl
   | mapI _=>rfl
   | hdr n p xs t =>
    show foX fo2 xs++[]=[]
    induction xs with
    | nil=>rfl
    | cons a l ih=>exact ih
   | oarr _ _ _ _ _=>rfl
   | mapA m p xs =>
    show foX fo2 xs++[]=[]
    induction xs with
    | nil=>rfl
    | cons a l ih=>exact ih
   | itr _=>rfl
 rw [h2,h3];trivial)
def zoy:List AV→Nat→VK
 | [],_=>[]
 | v::vs,i=>(i,v)::zoy vs (i+1)
theorem zbc {E:Env} {S:St} {Z:Nat→Prop} {j:Nm}:∀ (as:List AV) (vs:List Value) (i:Nat) (t:Tr Value) (n:Nat),VRs E S Z j as vs→FRR E S Z j (zoy as i) ⟨n,z10 vs i t⟩
 | [],vs,i,t,n,h,k,a,ha=>by cases ha
 | a0::as,vs,i,t,n,h,k,a,ha=>by
  cases h with
  | cons h hl =>
   rename_i u vs
   have hset:z10 (u::vs) i t=z10 vs (i+1) (t.set i u):=rfl
   have hkeep:∀ (vs:List Value) (i:Nat) (t:Tr Value) (k:Nat),k<i→(z10 vs i t).get k=t.get k:=by
    intro vs
    induction vs with
    | nil=>intro i t k _;rfl
    | cons w ws ih =>
     intro i t k hk
     show (z10 ws (i+1) (t.set i w)).get k=_
     rw [ih _ _ _ (by omega),Tr.get_set,if_neg (by omega)]
   show ∃ v,(z10 (u::vs) i t).get k=some v∧_
   rw [hset]
   simp only [zoy,ak,Tr.beq_def] at ha
   by_cases e:i=k
   ·subst e
    simp only [decide_true,cond_true,Option.some.injEq] at ha
    subst ha
    refine ⟨u,?_,h⟩
    rw [hkeep _ _ _ _ (by omega),Tr.get_set,if_pos rfl]
   ·simp only [e,decide_false,cond_false] at ha
    exact zbc as vs (i+1) _ n hl k a ha
def zjX (tb:Tab) (F:VK) (L:VS):List ResultVar→Option (List AV)
 | []=>some []
 | .tmp t::rs=>match ak F t,zjX tb F L rs with
  | some a,some l=>some (unl a::l)
  | _,_=>none
 | .cell a t::rs=>match ak F a,zjX tb F L rs with
  | some p,some l=>match zk1 tb L t p with
   | some ([],x)=>some (x::l)
   | _=>none
  | _,_=>none
theorem za6 {E:Env} {tb:Tab} {S:St} {Z:Nat→Prop} {j:Nm} {L:VS} {F:VK} {T:Fr} (hT:zM E tb=true) (hS:SR E S Z j L) (hF:FRR E S Z j F T):∀ {rs:List ResultVar} {l:List AV},zjX tb F L rs=some l→∃ vs,z18 E T S rs=some vs∧VRs E S Z j l vs
 | [],l,h=>by cases h;exact ⟨[],rfl,.nil⟩
 | .tmp t::rs,l,h=>by
  simp only [zjX] at h
  split at h
  ·rename_i a l0 ha hl
   cases h
   obtain ⟨v,h1,h2⟩:=hF t a ha
   obtain ⟨vs,h3,h4⟩:=za6 hT hS hF hl
   refine ⟨v::vs,?_,.cons h2.unl h4⟩
   show ob (T.t.get t) _=_
   rw [h1]
   show ob (z18 E T S rs) _=_
   rw [h3];rfl
  ·cases h
 | .cell p t::rs,l,h=>by
  simp only [zjX] at h
  split at h
  ·rename_i a l0 ha hl
   split at h
   ·rename_i x hx
    cases h
    obtain ⟨v,h1,h2⟩:=hF p a ha
    obtain ⟨q,u,rfl,h5,h6⟩:=zek hT hx (fun P hP=>by cases hP) hS h2
    obtain ⟨vs,h3,h4⟩:=za6 hT hS hF hl
    refine ⟨u::vs,?_,.cons h6 h4⟩
    show ob (ob (ob (T.t.get p) addrOf) fun p=>z0e E t p S) _=_
    rw [h1]
    show ob (z0e E t q S) _=_
    rw [h5]
    show ob (z18 E T S rs) _=_
    rw [h3];rfl
   ·cases h
  ·cases h
def zjQ:List AV→AV
 | [a]=>a
 | l=>.tup l
theorem zi6 {E:Env} {S:St} {Z:Nat→Prop} {j:Nm} {l:List AV} {vs:List Value} (h:VRs E S Z j l vs):VR E S Z j (zjQ l) (zkG vs):=by
 cases h with
 | nil=>exact .tup .nil
 | cons h hl=>cases hl with
  | nil=>exact h
  | cons h2 hl=>exact .tup (.cons h (.cons h2 hl))
theorem zbk {E:Env} {f:FuncId} (hh:z6j E f=true) (vs:List Value):z2E E f vs=false∧z0A E f=false∧z2z E f=false:=by
 unfold z6j at hh
 rw [yw,yw] at hh
 obtain ⟨h1,h2,h3⟩:=hh
 refine ⟨?_,by simpa using h2,by simpa using h3⟩
 unfold z2E
 cases hk:E.hook with
 | none=>rfl
 | some k =>
  rw [hk] at h1
  show (Nat.beq f k&&vs.isEmpty)=false
  have:Nat.beq f k=false:=by simpa using h1
  rw [this];rfl
def zrv (tb:Tab) (st:List Nat) (rs:List ResultVar) (R:AV→VS→Prop):zK:=fun e F L=>z8u e=true∧∃ l ps a0 L0,zjX tb F L rs=some l∧Wk st ps [(0,zjQ l)] L [(0,a0)] L0∧R a0 L0
theorem VC.of {E:Env} {tb:Tab} {st:List Nat} {f:FuncId} {fn:Func} {c:Code} {args:List AV} {L:VS} {R:AV→VS→Prop} (hT:zM E tb=true) (hh:z6j E f=true) (hf:E.fns.get f=some fn) (hc:fn.body=some c) (ha:Nat.ble args.length fn.ntmps=true)
  (h:VSt.H E fn.ntmps st none (zrv tb st fn.results.toList R) (.code c [] (zoy args 0) L)):VC E st f args L R:=by
 intro S Z j vs hS hv hl
 obtain ⟨hhk,hh2,hh3⟩:=zbk hh vs
 obtain ⟨n,r,h1,F',L',Z',j',h2,h3,l,ps,a0,L0,h4,h5,h6⟩:=h ⟨fn.ntmps,z10 vs 0 .nil⟩ S Z j rfl hS (zbc _ _ _ _ _ hv) hl
 obtain ⟨us,h7,h8⟩:=za6 hT h2.sr h2.fr h4
 refine ⟨n+1,zkG us,r.S,fun m hm=>?_,a0,L0,Z',z5r ps j',h5.sr h2.sr,?_,h2.ex.trans jsel_ex,h2.low,h2.stay.trans h5.stay,h6⟩
 ·obtain ⟨k,rfl,hk⟩:=zh hm
  show bf (z2E E f vs) _ (bf (z0A E f) _ (bf (z2z E f) _ (ob (E.fns.get f) _)))=_
  rw [hhk,hh2,hh3]
  show ob (E.fns.get f) _=_
  rw [hf]
  show ob fn.body _=_
  rw [hc]
  show gd (Nat.ble vs.length fn.ntmps) (ob (z1C E (run E k).call (run E k).code c none _ S) (z3Z E fn))=_
  rw [←hv.length,ha]
  show ob ((run E (k+1)).code c none _ S) (z3Z E fn)=_
  rw [h1 _ (by omega)]
  show gd (!z8H r.ex) (ob (z18 E r.T r.S fn.results.toList) _)=_
  have:(!z8H r.ex)=true:=by
   cases hx:r.ex with
   | exit id=>rw [hx] at h3;cases h3
   | normal=>rfl
   | ret=>rfl
  rw [this,h7]
  rfl
 ·obtain ⟨a,k1,k2,k3⟩:=h5.fr (0,a0) (by simp)
  have:a=zjQ l:=by simp [ak] at k1;exact k1.symm
  subst this
  exact k3 _ _ _ _ _ ((zi6 h8).ren (ZLe.refl _ _) (z2i h5.ok) k2)
def EndsP (tb:Tab) (rs:List ResultVar) (r:AV):zK:=fun e F L=>z8u e=true∧∃ l,zjX tb F L rs=some l∧(zjQ l).only (fun _=>false)=true∧AImp (zjQ l) r
theorem VP.of {E:Env} {tb:Tab} {f:FuncId} {fn:Func} {c:Code} {args:List AV} {r:AV} (hT:zM E tb=true) (hh:z6j E f=true) (hf:E.fns.get f=some fn) (hc:fn.body=some c) (ha:Nat.ble args.length fn.ntmps=true) (hr:r.only (fun _=>false)=true)
  (h:VSt.H E fn.ntmps [] none (EndsP tb fn.results.toList r) (.code c [] (zoy args 0) [])):VP E f args r:=by
 refine ⟨hr,VC.of hT hh hf hc ha (VW.mono h ?_)⟩
 rintro e F L ⟨h1,l,h2,h3,h4⟩
 refine ⟨h1,l,[],r,[],h2,⟨rfl,rfl,z2c (a:=zjQ l) rfl h3 ?_ zw,[],rfl,trivial⟩,rfl,rfl⟩
 rw [z08 _ h3];exact h4
theorem EndsP.mk {tb:Tab} {rs:List ResultVar} {r:AV} {e:LExit} {F:VK} {L:VS} {l:List AV} (h1:z8u e=true) (h2:zjX tb F L rs=some l) (h3:(zjQ l).only (fun _=>false)=true) (h4:zjQ l=r):EndsP tb rs r e F L:=⟨h1,l,h2,h3,h4 ▸ AImp.refl _⟩
end
noncomputable section
theorem ak_cons {t k:Nat} {a:AV} {F:VK}:ak ((t,a)::F) k=if k=t then some a else ak F k:=by
 simp only [ak,Tr.beq_def]
 by_cases e:t=k
 ·subst e;simp
 ·simp [e,show ¬ k=t from fun h=>e h.symm]
theorem zfx {F:VK} {t:Nat} {a:AV} (h:ak F t=some a) (hu:unl a=a):av F (.tmp t)=some a:=by
 show (match ak F t with | some a=>some (unl a) | none=>none)=_
 rw [h];exact congrArg some hu
abbrev iv (n:Int):AV:=.p (.int .i64 n)
abbrev nv (n:Nat):AV:=.p (.int .i64 (Int.ofNat n))
section
variable {E:Env} {N:Nat} {st:List Nat} {rd:Option Nat} {Q:zK} {tb:Tab}
theorem VSt.range (hT:zM E tb=true) {ti tn tc ts idb id2 r1 r2:Nat} {t1 t2 t3 t4 ty1 ty2 ty3:TypeId} {p1 p2 p3:String} {a1 a2 a3:Array Edge} {body:Code} {K:List KI} {F:VK} {L:VS} (n:Nat) (hn:n<9223372036854775808) (I:Nat→VK→VS→Prop)
  (hN:(Nat.blt tc N&&(Nat.blt ts N&&Nat.blt ti N))=true) (hne:(!Nat.beq tc ti&&(!Nat.beq tc tn&&(!Nat.beq ts ti&&(!Nat.beq ts tn && !Nat.beq ti tn))))=true)
  (h0:∃ l0 L0,Vw E st F L ((ti,nv 0)::(tn,nv n)::l0) L0∧I 0 l0 L0)
  (hb:∀ k l L,k<n→I k l L→VSt.H E N st rd Q (.code body (.block id2 :: .inv (fun F' L'=>∃ l'' L'',Vw E st F' L' ((ti,nv k)::(tn,nv n)::l'') L''∧I (k+1) l'' L''∧(l''.all fun p=>!Nat.beq ti p.1 && !Nat.beq ts p.1)=true) :: .block idb::K) ((tc,.p (.bool true))::(ti,nv k)::(tn,nv n)::l) L))
  (he:∀ l L,I n l L→VSt.H E N st rd Q (.ex .normal K ((tc,.p (.bool false))::(ti,nv n)::(tn,nv n)::l) L)) :
  VSt.H E N st rd Q (.code (.loop (.seq (.region r1 #[⟨some tc,.binOp .lss t1 (.tmp ti) (.tmp tn) t2,ty1,p1,a1,none⟩] false)
   (.seq (.cond (.tmp tc) .skip (.exit idb)) (.seq (.block id2 body) (.region r2 #[⟨some ts,.binOp .add t3 (.tmp ti) (.const (.int .i64 1)) t4,ty2,p2,a2,none⟩,⟨some ti,.move (.tmp ts),ty3,p3,a3,none⟩] false))))) (.block idb::K) F L):=by
 simp only [yw,Bool.not_eq_true'] at hN hne
 obtain ⟨n1,n2,n3⟩:=hN
 obtain ⟨m1,m2,m3,m4,m5⟩:=hne
 have ne:∀ {a b:Nat},Nat.beq a b=false→¬ b=a:=fun h e=>by subst e;rw [Nat.beq_refl] at h;cases h
 obtain ⟨l0,L0,hw,hI0⟩:=h0
 refine VSt.loop (α :=Nat×VK) (fun x F L=>x.1≤n∧I x.1 x.2 L∧F=(ti,nv x.1)::(tn,nv n)::x.2) (fun x=>n - x.1) (0,l0) hw ⟨yu _,hI0,rfl⟩ ?_
 rintro ⟨k,lx⟩ F L ⟨hk,hI,rfl⟩
 simp only at hk hI
 have hcmp:decide (Int.ofNat k<Int.ofNat n)=decide (k<n):=by
  rw [decide_eq_decide];simp only [yl];omega
 have g1:av ((ti,nv k)::(tn,nv n)::lx) (.tmp ti)=some (nv k):=zfx (by rw [ak_cons,if_pos rfl]) rfl
 have g2:av ((ti,nv k)::(tn,nv n)::lx) (.tmp tn)=some (nv n):=zfx (by rw [ak_cons,if_neg (ne m5),ak_cons,if_pos rfl]) rfl
 refine VW.seq (VW.region (VO.keep (obs:=[]) (a:=.p (.bool (decide (k<n)))) hT rfl n1 ?_ (fun P hP=>by cases hP) (VO.nil ?_)))
 ·show o1 (av _ (.tmp ti)) (fun a=>o1 (av _ (.tmp tn)) fun b=>zbq tb .lss t1 a b)=_
  rw [g1,g2]
  show some ([],AV.p (.bool (decide (Int.ofNat k<Int.ofNat n))))=_
  rw [hcmp]
 ·refine VW.seq (VW.cond (t:=decide (k<n)) (zfx (ak_cons.trans (if_pos rfl)) rfl) (fun hc=>VW.skip ?_) (fun hc=>VW.exit ?_))
  ·have hkn:k<n:=of_decide_eq_true hc
   show VW E N st rd (.seq (.block id2 body) _) ((tc,.p (.bool (decide (k<n))))::_) L _
   rw [hc]
   refine VW.seq (VW.block (VW.mono (hb k lx L hkn hI) ?_))
   intro e F' L' hk2
   have fin:(∃ l'' L'',Vw E st F' L' ((ti,nv k)::(tn,nv n)::l'') L''∧I (k+1) l'' L''∧(l''.all fun p=>!Nat.beq ti p.1 && !Nat.beq ts p.1)=true)→VW E N st rd (.region r2 #[⟨some ts,.binOp .add t3 (.tmp ti) (.const (.int .i64 1)) t4,ty2,p2,a2,none⟩,⟨some ti,.move (.tmp ts),ty3,p3,a3,none⟩] false) F' L' (KX E N st rd Q (.inv (fun F' L'=>∃ (y:Nat×VK) (F0:VK) (L0:VS),Vw E st F' L' F0 L0∧(y.1≤n∧I y.1 y.2 L0∧F0=(ti,nv y.1)::(tn,nv n)::y.2)∧n - y.1<n - k) :: .block idb::K)):=by
    rintro ⟨l'',L'',hw',hI',hd⟩
    refine VW.view hw' ?_
    have g3:av ((ti,nv k)::(tn,nv n)::l'') (.tmp ti)=some (nv k):=zfx (by rw [ak_cons,if_pos rfl]) rfl
    refine VW.region (VO.keep (obs:=[inR (Int.ofNat k+1)]) (a:=nv (k+1)) hT rfl n2 ?_ (fun P hP=>?_) ?_)
    ·show o1 (av _ (.tmp ti)) (fun a=>o1 (av _ (.const (.int .i64 1))) fun b=>zbq tb .add t3 a b)=_
     rw [g3];rfl
    ·rw [List.mem_singleton.1 hP]
     unfold inR;simp only [yl];omega
    ·refine VO.keep (obs:=[]) (a:=nv (k+1)) hT rfl n3 ?_ (fun P hP=>by cases hP) (VO.nil ?_)
     ·show o1 (ak ((ts,nv (k+1))::_) ts) _=_
      rw [ak_cons,if_pos rfl];rfl
     ·refine ⟨(k+1,l''),_,L'',Vw.sub' (fun t a ha=>?_),⟨hkn,hI',rfl⟩,by simp only;omega⟩
      show ak ((ti,nv (k+1))::(ts,nv (k+1))::(ti,nv k)::(tn,nv n)::l'') t=some a
      rw [ak_cons] at ha ⊢
      split at ha
      ·rename_i e;rw [if_pos e];exact ha
      ·rename_i e
       rw [if_neg e]
       rw [ak_cons] at ha
       split at ha
       ·rename_i e2;subst e2
        rw [ak_cons,if_neg (ne m4),ak_cons,if_neg e,ak_cons,if_pos rfl];exact ha
       ·rename_i e2
        have hp0:=List.all_eq_true.1 hd _ (z4k ha)
        simp only [yw,Bool.not_eq_true'] at hp0
        rw [ak_cons,if_neg (ne hp0.2),ak_cons,if_neg e,ak_cons,if_neg e2];exact ha
   cases e with
   | normal=>exact fin hk2
   | ret=>exact hk2
   | exit i =>
    show if i=id2 then _ else _
    by_cases ei:i=id2
    ·rw [if_pos ei]
     change (if i=id2 then _ else _) at hk2
     rw [if_pos ei] at hk2
     exact fin hk2
    ·rw [if_neg ei]
     change (if i=id2 then _ else _) at hk2
     rw [if_neg ei] at hk2
     exact hk2
  ·show if idb=idb then _ else _
   rw [if_pos rfl]
   have:k=n:=by
    have:=of_decide_eq_false hc
    omega
   subst this
   show KX E N st rd Q K .normal ((tc,.p (.bool (decide (k<k))))::_) L
   rw [hc]
   exact he lx L hI
end
end
def z3o (E:Env) (r:Tr (List Value×TypeId)):Env:={ E with rom:=r }
abbrev Seg:=JB×(List Value×TypeId)
def sOf:List Seg→Nat→Option Seg
 | [],_=>none
 | s::l,b=>if b=l.length then some s else sOf l b
def jOf (L:List Seg):Inj:=fun b=>(sOf L b).map (·.1)
noncomputable def z5C:List Seg→Tr (List Value×TypeId)
 | []=>.nil
 | s::l=>(z5C l).set l.length s.2
theorem z3T:∀ (L:List Seg) (b:Nat),(z5C L).get b=(sOf L b).map (·.2)
 | [],b=>Tr.get_nil b
 | s::l,b=>by
  rw [z5C,Tr.get_set,sOf]
  split
  ·rfl
  ·exact z3T l b
theorem zbE:∀ {L:List Seg} {b:Nat} {s:Seg},sOf L b=some s→b<L.length
 | [],b,s,h=>by cases h
 | s0::l,b,s,h=>by
  rw [sOf] at h
  split at h
  ·simp;omega
  ·have:=zbE h;simp;omega
theorem zez:∀ {L:List Seg} {b:Nat},b<L.length→∃ s,sOf L b=some s
 | [],b,h=>by simp at h
 | s0::l,b,h=>by
  rw [sOf]
  split
  ·exact ⟨_,rfl⟩
  ·simp at h;exact zez (by omega)
theorem zhB (M:List Seg) {L:List Seg} {b:Nat} {s:Seg} (h:sOf L b=some s):sOf (M++L) b=some s:=by
 induction M with
 | nil=>exact h
 | cons m M ih =>
  rw [List.cons_append,sOf,if_neg]
  ·exact ih
  ·have:=zbE h;simp;omega
theorem z9G (M L:List Seg):Le (jOf L) (jOf (M++L)):=fun b x h=>by
 unfold jOf at h ⊢
 cases hs:sOf L b with
 | none=>rw [hs] at h;cases h
 | some s=>rw [hs] at h;rw [zhB M hs];exact h
section
variable (E:Env) (W:World)
def SegOk (j:Inj) (s:Seg):Prop:=s.1.blk<W.heap.size∧(s.2.1≠[]→∃ c' e' fr,W.heap[s.1.blk]? = some (.cells c' e' fr)∧c'.size=s.1.csize∧s.1.delta+s.2.1.length≤s.1.csize∧(∀ t,E.ti.get s.2.2=some t→t.size=s.1.esize) ∧
 ∀ (i:Nat) (v:Value),s.2.1[i]? = some v→∃ v':Value,c'[s.1.delta+i]? = some v'∧Yf j v v')
def Valid (L:List Seg):Prop:=∀ b s,sOf L b=some s→SegOk E W (jOf L) s
end
section
variable {E:Env} {W:World}
theorem SegOk.mono {j j':Inj} (hj:Le j j') {s:Seg} (h:SegOk E W j s):SegOk E W j' s:=by
 refine ⟨h.1,fun hne=>?_⟩
 obtain ⟨c',e',fr,h1,h2,h3,h4,h5⟩:=h.2 hne
 exact ⟨c',e',fr,h1,h2,h3,h4,fun i v hi=>let ⟨v',a,b⟩:=h5 i v hi;⟨v',a,b.mono hj⟩⟩
theorem Valid.nil:Valid E W []:=fun b s h=>by cases h
theorem Valid.cons {L:List Seg} (h:Valid E W L) {s:Seg} (hs:SegOk E W (jOf L) s):Valid E W (s::L):=by
 intro b s' hb
 rw [sOf] at hb
 split at hb
 ·cases hb;exact hs.mono (z9G [s] L)
 ·exact (h b s' hb).mono (z9G [s] L)
def st0 (L:List Seg):St:=⟨.nil,L.length,L.length⟩
theorem zqt {P:Program} {L:List Seg} (h:Valid E W L):Sim ⟨P,z3o E (z5C L)⟩ (jOf L) (st0 L) W:=by
 have hlive:∀ b,¬ live (st0 L) b:=fun b ⟨o,ho,_⟩=>by
  have:(Tr.nil:Tr Yg).get b=some o:=ho
  rw [Tr.get_nil] at this;cases this
 refine ⟨fun b x hb=>?_,fun b x o _ ho=>?_,fun b c x y _ _ lb=>absurd lb (hlive b),fun b c hb=>?_⟩
 ·unfold jOf at hb
  cases hs:sOf L b with
  | none=>rw [hs] at hb;cases hb
  | some s=>rw [hs] at hb;cases hb;exact ⟨zbE hs,(h b s hs).1⟩
 ·have:(Tr.nil:Tr Yg).get b=some o:=ho
  rw [Tr.get_nil] at this;cases this
 ·have hb:(z5C L).get b=some c:=hb
  rw [z3T] at hb
  cases hs:sOf L b with
  | none=>rw [hs] at hb;cases hb
  | some s =>
   rw [hs] at hb;cases hb
   exact ⟨s.1,by unfold jOf;rw [hs];rfl,(h b s hs).2,fun d y _ hd=>absurd hd (hlive d)⟩
mutual
theorem PR.monoE {E':Env} {S S':St} {Z Z':Nat→Prop} (hz:∀ b,Z b→Z' b∧(∀ c,rdc E S b=some c→rdc E' S' b=some c)∧(E.rom.get b=none→E'.rom.get b=none)) {p:PV} {v:Value}:PR E S Z p v→PR E' S' Z' p v
 | .int k n=>.int k n
 | .bool b=>.bool b
 | .str s=>.str s
 | .nil ty f=>.nil ty f
 | .lst g h1 h2 h3 h0 h4 h5 h6=>.lst g (hz _ h1).1 ((hz _ h1).2.1 _ h2) h3 h0 (h4.imp id fun h=>⟨h.1,(hz _ h1).2.2 h.2⟩) h5 (fun k hk=>(h6 k hk).monoE hz)
 | .fp h1 h2 h3 h4=>.fp (hz _ h1).1 ((hz _ h1).2.1 _ h2) h3 (h4.monoE hz)
 | .emp h1 h2 h3=>.emp (hz _ h1).1 ((hz _ h1).2.1 _ h2) h3
 | .nilp=>.nilp
 | .nilf=>.nilf
 | .nilm=>.nilm
theorem PRs.monoE {E':Env} {S S':St} {Z Z':Nat→Prop} (hz:∀ b,Z b→Z' b∧(∀ c,rdc E S b=some c→rdc E' S' b=some c)∧(E.rom.get b=none→E'.rom.get b=none)) {p:List PV} {v:List Value}:PRs E S Z p v→PRs E' S' Z' p v
 | .nil=>.nil
 | .cons h hl=>.cons (h.monoE hz) (hl.monoE hz)
end
abbrev PL (E:Env) (L:List Seg) (qs:List PV) (vs:List Value):Prop:=PRs (z3o E (z5C L)) (st0 L) (fun b=>b<L.length) qs vs
theorem zaq {L:List Seg} {b:Nat} {s:Seg} (h:sOf L b=some s) (S:St):rdc (z3o E (z5C L)) S b=some s.2:=by
 unfold rdc
 show Option.rec (motive:=fun _=>Option (List Value×TypeId)) _ _ ((z5C L).get b)=_
 rw [z3T,h];rfl
theorem PL.mono {L:List Seg} (M:List Seg) {qs:List PV} {vs:List Value} (h:PL E L qs vs):PL E (M++L) qs vs:=by
 refine PRs.monoE (fun b hb=>?_) h
 obtain ⟨s,hs⟩:=zez hb
 refine ⟨by show b<(M++L).length;simp;omega,fun c hc=>?_,fun hn=>?_⟩
 ·rw [zaq hs] at hc
  rw [zaq (zhB M hs)];exact hc
 ·have hn:(z5C L).get b=none:=hn
  rw [z3T,hs] at hn;cases hn
def Sh (E:Env):Nat→TypeId→List PV→Prop
 | 0,_,_=>False
 | n+1,t,qs=>match E.ti.get t with
  | none=>False
  | some i=>match i.desc with
   | .bool=>∃ b,qs=[.bool b]
   | .int k=>∃ x,qs=[.int k x]∧k.min≤x∧x≤k.max
   | .string=>∃ s:ByteArray,qs=[.str s]∧s.size≤maxLen
   | .slice e=>∃ nb m f,qs=[.lst e nb m f]∧(nb=true→m=0)∧m≤maxLen∧∀ k,k<m→Sh E n e (f k)
   | .struct fs=>qs.length=i.size∧∀ f∈fs.toList,∃ g,E.ti.get f.type=some g∧Sh E n f.type ((qs.drop f.offset).take g.size)
   | .array m e=>qs.length=i.size∧∃ g,E.ti.get e=some g∧∀ k,k<m→Sh E n e ((qs.drop (k*g.size)).take g.size)
   | _=>False
noncomputable def zcA (E:Env) (fs:List Field):Nat→Option Nat :=
 List.rec (motive:=fun _=>Nat→Option Nat) (fun o=>some o) (fun f _ ih o=>match E.ti.get f.type with
  | none=>none
  | some g=>bif Nat.beq f.offset o then ih (o+g.size) else none) fs
noncomputable def sup (E:Env):Nat→TypeId→Bool
 | 0,_=>false
 | n+1,t=>match E.ti.get t with
  | none=>false
  | some i=>match i.desc with
   | .bool=>Nat.beq i.size 1
   | .int _=>Nat.beq i.size 1
   | .string=>Nat.beq i.size 1
   | .slice e=>Nat.beq i.size 1&&((match E.ti.get e with | some g=>Nat.blt 0 g.size | none=>false)&&sup E n e)
   | .struct fs=>(match zcA E fs.toList 0 with | some m=>Nat.beq m i.size | none=>false)&&fs.toList.all fun f=>sup E n f.type
   | .array m e=>(match E.ti.get e with | some g=>Nat.beq (m*g.size) i.size | none=>false)&&sup E n e
   | _=>false
end
section
variable {H:Type} {enc:TypeId×Value→H} {P:Program} {E:Env} {W:World}
structure TiP (P:Program) (E:Env):Prop where
 ti:∀ t x,E.ti.get t=some x→TiOK P t x
theorem TiP.cells (h:TiP P E) {t:TypeId} {i:LTy} (hi:E.ti.get t=some i):P.cellsOf t=i.size:=by
 obtain ⟨q,h1,h2,_⟩:=(h.ti t i hi).info
 unfold Program.cellsOf
 rw [h1];exact h2
def Lays (E:Env) (W:World) (L:List Seg) (cs:List Value) (Q:List PV→Prop):Prop:=∃ M cs' qs,Valid E W (M++L)∧Yh (jOf (M++L)) cs' cs∧PL E (M++L) qs cs'∧Q qs
theorem Yh.app {j:Inj}:∀ {a a' b b':List Value},Yh j a a'→Yh j b b'→Yh j (a++b) (a'++b')
 | _,_,_,_,.nil,h=>h
 | _,_,_,_,.cons h hl,k=>.cons h (hl.app k)
theorem zf6 {Sz:TypeId→Nat} {O:TypeId→Prop} {Q:TypeId→List PV→Prop} (one:∀ (t:TypeId) (c:List Value) (L:List Seg),Valid E W L→c.length=Sz t→(∃ n d,DataW.trod enc P W 0 (fun _=>true) true n t c=some d)→O t→Lays E W L c (fun q=>q.length=Sz t∧Q t q)) :
  ∀ (l:List (TypeId×List Value)) (L:List Seg),Valid E W L→(∀ p∈l,O p.1∧p.2.length=Sz p.1∧∃ n d,DataW.trod enc P W 0 (fun _=>true) true n p.1 p.2=some d) →
  ∃ M cs' qs,Valid E W (M++L)∧Yh (jOf (M++L)) cs' (l.flatMap (·.2))∧PL E (M++L) qs cs'∧∃ parts:List (List PV),qs=parts.flatten∧parts.length=l.length∧∀ (i:Nat) (p:TypeId×List Value),l[i]? = some p→∃ q:List PV,parts[i]? = some q∧q.length=Sz p.1∧Q p.1 q
 | [],L,hL,_=>⟨[],[],[],hL,.nil,.nil,[],rfl,rfl,fun i p h=>by simp at h⟩
 | p::l,L,hL,hp=>by
  obtain ⟨h0,h1,h2⟩:=hp p (by simp)
  obtain ⟨M1,c1,q1,k1,k2,k3,k4⟩:=one p.1 p.2 L hL h1 h2 h0
  obtain ⟨M2,c2,q2,m1,m2,m3,parts,m4,m5,m6⟩:=zf6 one l (M1++L) k1 (fun p hp'=>hp p (by simp [hp']))
  refine ⟨M2++M1,c1++c2,q1++q2,by rw [List.append_assoc];exact m1,?_,?_,q1::parts,by simp [m4],by simp [m5],fun i p' hi=>?_⟩
  ·rw [List.flatMap_cons,List.append_assoc]
   exact (k2.mono (z9G M2 (M1++L))).app m2
  ·rw [List.append_assoc];exact (k3.mono M2).append m3
  ·cases i with
   | zero=>simp at hi;subst hi;exact ⟨q1,by simp,k4⟩
   | succ i=>simp at hi;obtain ⟨q,h3,h4⟩:=m6 i p' hi;exact ⟨q,by simpa using h3,h4⟩
def zb4 {α : Type}:List Nat→List α → List (List α)
 | [],_=>[]
 | s::l,cs=>cs.take s::zb4 l (cs.drop s)
theorem z5n {α : Type}:∀ (szs:List Nat) (cs:List α),(zb4 szs cs).length=szs.length
 | [],_=>rfl
 | s::l,cs=>by simp [zb4,z5n l]
theorem z7j {α : Type}:∀ (szs:List Nat) (cs:List α),cs.length=szs.sum→(zb4 szs cs).flatten=cs
 | [],cs,h=>by simp at h;simp [zb4,h]
 | s::l,cs,h=>by
  simp only [List.sum_cons] at h
  simp only [zb4,List.flatten_cons]
  rw [z7j l (cs.drop s) (by simp;omega),List.take_append_drop]
theorem zb3 {α : Type}:∀ (szs:List Nat) (cs:List α) (i s:Nat),szs[i]? = some s→(zb4 szs cs)[i]? = some ((cs.drop (szs.take i).sum).take s)
 | [],cs,i,s,h=>by simp at h
 | s0::l,cs,0,s,h=>by simp at h;subst h;simp [zb4]
 | s0::l,cs,i+1,s,h=>by
  simp at h
  simp only [zb4,List.getElem?_cons_succ,List.take_succ_cons,List.sum_cons]
  rw [zb3 l (cs.drop s0) i s h,List.drop_drop]
theorem za0 {α : Type}:∀ (parts:List (List α)),zb4 (parts.map List.length) parts.flatten=parts
 | []=>rfl
 | p::l=>by simp [zb4,za0 l]
theorem zgl (o:Nat):zcA E [] o=some o:=rfl
theorem zdV (f:Field) (fs:List Field) (o:Nat):zcA E (f::fs) o=match E.ti.get f.type with
  | none=>none
  | some g=>bif Nat.beq f.offset o then zcA E fs (o+g.size) else none:=rfl
theorem z98 (hP:TiP P E):∀ {fs:List Field} {o m:Nat},zcA E fs o=some m→m=o+(fs.map fun f=>P.cellsOf f.type).sum∧∀ i f,fs[i]? = some f→∃ g,E.ti.get f.type=some g∧f.offset=o+((fs.map fun f=>P.cellsOf f.type).take i).sum
 | [],o,m,h=>by rw [zgl] at h;cases h;exact ⟨by simp,fun i f h=>by simp at h⟩
 | f0::fs,o,m,h=>by
  rw [zdV] at h
  split at h
  ·cases h
  ·rename_i g hg
   cases hb:Nat.beq f0.offset o with
   | false=>rw [hb] at h;cases h
   | true =>
    rw [hb] at h
    simp only [cond_true] at h
    obtain ⟨h1,h2⟩:=z98 hP h
    have hc:=hP.cells hg
    refine ⟨by simp only [List.map_cons,List.sum_cons];omega,fun i f hf=>?_⟩
    cases i with
    | zero=>simp at hf;subst hf;exact ⟨g,hg,by simp [zm hb]⟩
    | succ i =>
     simp at hf
     obtain ⟨g',h3,h4⟩:=h2 i f hf
     refine ⟨g',h3,?_⟩
     simp only [List.map_cons,List.take_succ_cons,List.sum_cons];omega
end
end
end Go.Proofs.YtdpipdniklognaaGreat
