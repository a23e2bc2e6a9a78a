/- The program's StemAgrees returns true for every stem, one and number, valid or not, without an exception and without changing its arguments: a part of the proof. -/
import Derived.Test.YtncpeobcgmkkbaaGreatVr
set_option linter.all false
/- Walks: the law of what agrees. -/
set_option maxRecDepth 100000
namespace Go.Proofs.YtncpeobcgmkkbaaGreat
variable {r:Tr (List Value×TypeId)}
theorem rootI_at {s:Stem} {l:List Int} {i:Nat} (hv:s.Valid) (hl:l.length=s.copies.length) (hi:i<s.copies.length) (h0:l.getD i 0=0) (ho:∀ k,k<i→l.getD k 0≠0):rootI s l=idAt s i:=by
 unfold rootI
 rw [firstN_some (k:=i) (by omega) (by rw [h0,decide_eq_true hi];rfl) fun k hk=>by rw [beq_false_of_ne (ho k hk)];rfl]
theorem show_least {s:Stem} {root:Int} (h:showE s root=0):ckStem s=0∧studE s=0∧pedE s (showL s root)=0∧costOfI s (showL s root)=(searchS s).cost∧rootI s (showL s root)=root∧(showL s root).length=s.copies.length:=by
 have hck:ckStem s=0:=by
  unfold showE at h
  split at h
  ·assumption
  ·exact h
 have hv:=valid_of hck
 unfold showE at h
 rw [if_pos hck] at h
 split at h
 ·exact absurd h (by decide)
 rename_i hpl
 split at h
 ·exact absurd h (by decide)
 rename_i hm
 have hm:0<leastN s:=Nat.pos_of_ne_zero hm
 cases hq:showQ s (place s root).toNat with
 | none=>rw [hq] at h;exact absurd h (by decide)
 | some q =>
  obtain ⟨q1,q2⟩:=firstN_of hq
  obtain ⟨p1,p2⟩:=place_id (s:=s) (a:=root) (by omega)
  have hT:=leastAt_T hv q1
  have hid0:idOf s (leastAt s q (place s root).toNat)=0:=by unfold isRootB at q2;simpa using q2
  have hroot:=(idOf_zero hv (hT.1.part.lt _ p1)).1 hid0
  have hL:showL s root=pedOf s (leastAt s q):=by unfold showL;rw [hq];rfl
  have hlen:(showL s root).length=s.copies.length:=by rw [hL,pedOf_len]
  have hat:∀ k,k<s.copies.length→(showL s root).getD k 0=idOf s (leastAt s q k):=fun k hk=>by rw [hL,pedOf_at s _ hk]
  obtain ⟨t1,t2⟩:=tree_ped hv hT.1 hlen hat
  have hP:pedE s (showL s root)=0:=by unfold pedE;rw [if_pos hck,if_pos t1]
  refine ⟨hck,?_,hP,?_,?_,hlen⟩
  ·unfold studE
   rw [if_pos hck,if_neg (fun e=>by unfold leastN at hm;rw [e] at hm;exact absurd hm (by decide))]
  ·rw [show costOfI s (showL s root)=costP s (parF s (showL s root)) s.copies.length from if_pos hP,ped_cost t2]
   exact hT.2
  ·rw [rootI_at hv hlen p1 ((hat _ p1).trans hid0) fun k hk=>?_,p2]
   rw [hat k (by omega)]
   intro e
   have h0:=(idOf_zero hv (hT.1.part.lt k (by omega))).1 e
   have:=root_uniq hT.1.root p1 (by omega) hroot (show k≠(place s root).toNat by omega)
   omega
theorem rootIds_few {s:Stem} (h:studE s=0):(rootIds s).length≤7:=by
 obtain ⟨hck,hm⟩:=studE_zero h
 have hv:=valid_of hck
 have:=rootsL_few hv hm
 have:=hv.c
 rw [rootIds_len];omega
theorem words_few {s:Stem} {q:Int} (h:wordsE s q=0):(rootsL s).length≤7:=by
 unfold wordsE at h
 split at h
 ·rename_i hck
  split at h
  ·split at h
   ·exact absurd h (by decide)
   ·rename_i hm
    have hv:=valid_of hck
    have:=rootsL_few hv (Nat.pos_of_ne_zero hm)
    have:=hv.c
    omega
  ·exact absurd h (by decide)
 ·rename_i hck
  exact absurd h hck
theorem textL_few {s:Stem} (h:ckStem s=0):(textL s).length≤16:=by
 have hv:=valid_of h
 rw [textL_len]
 unfold placesN
 split
 ·omega
 ·exact (ckCopy_of (hv.copy (k:=0) (by omega))).2.1.2
theorem same_self {x:PV} {l:List Int} {b:Bool} (hx:AImp (.p x) (.p (eInts b l))) (hl:l.length<9223372036854775808):VP (sE r) 16 [.p x,.p x] (bv true):=VP.imp (same_ok hl) ⟨hx,hx,trivial⟩
theorem same_if {c:Prop} [Decidable c] {l:List Int} (h:c→l.length<9223372036854775808):VP (sE r) 16 [.p (if c then eInts false l else nilI),.p (if c then eInts false l else nilI)] (bv true):=by
 by_cases hc:c
 ·rw [if_pos hc];exact same_ok (h hc)
 ·rw [if_neg hc];exact same_self (b:=true) (l:=[]) AImp.nil (by decide)
theorem same_mov (s:Stem):VP (sE r) 16 [.p (movV s),.p (movV s)] (bv true):=by
 unfold movV
 by_cases hc:studE s=0
 ·rw [if_pos hc]
  have:=movF_len s s.copies.length
  have:=(valid_of (studE_zero hc).1).c
  exact same_ok (by omega)
 ·rw [if_neg hc];exact same_self (b:=true) (l:=[]) AImp.nil (by decide)
set_option maxHeartbeats 8000000 in
theorem stemAgrees_law {s:Stem} {c:Copy} {co:Costs} {id a b q:Int} (hs:s.Ok) (hf:s.Flags) :
  VP (sE r) 4 [.agg ((eStem s).map .p),.agg ((eCopy c++(eCosts co++[PV.int .i64 id,PV.int .i64 a,PV.int .i64 b])).map AV.p),iv q] (bv true):=by
 have hsh:=Show_ok (r:=r) hs id
 have hfe:=rFewest_ok (r:=r) hs
 refine VP.of (fn:=Tryz.f4) tb_ok rfl (by kernel_rfl) rfl rfl rfl ?_
 refine VSt.go tb_ok false [] 200 rfl AllP.n ?_
 refine VSt.pc rfl rfl rfl rfl rfl rfl rfl rfl ((Parent_ok hs a b)) ?_
 refine VSt.go tb_ok false [] 200 rfl AllP.n ?_
 refine VSt.pc rfl rfl rfl rfl rfl rfl rfl rfl ((rParent_ok hs a b)) ?_
 refine VSt.go tb_ok false [] 200 rfl AllP.n ?_
 refine VSt.pc rfl rfl rfl rfl rfl rfl rfl rfl ((Roots_ok hs)) ?_
 refine VSt.go tb_ok false [] 200 rfl AllP.n ?_
 refine VSt.pc rfl rfl rfl rfl rfl rfl rfl rfl ((rRoots_ok hs)) ?_
 refine VSt.go tb_ok false [] 200 rfl AllP.n ?_
 refine VSt.pc rfl rfl rfl rfl rfl rfl rfl rfl ((Words_ok hs q)) ?_
 refine VSt.go tb_ok false [] 200 rfl AllP.n ?_
 refine VSt.pc rfl rfl rfl rfl rfl rfl rfl rfl ((rWords_ok hs q)) ?_
 refine VSt.go tb_ok false [] 200 rfl AllP.n ?_
 refine VSt.pc rfl rfl rfl rfl rfl rfl rfl rfl ((Agreed_ok hs)) ?_
 refine VSt.go tb_ok false [] 200 rfl AllP.n ?_
 refine VSt.pc rfl rfl rfl rfl rfl rfl rfl rfl ((rAgreed_ok hs)) ?_
 refine VSt.go tb_ok false [] 200 rfl AllP.n ?_
 refine VSt.pc rfl rfl rfl rfl rfl rfl rfl rfl ((pMoved_ok hs hf)) ?_
 refine VSt.go tb_ok false [] 200 rfl AllP.n ?_
 refine VSt.pc rfl rfl rfl rfl rfl rfl rfl rfl ((rMoved_ok hs)) ?_
 refine VSt.go tb_ok false [] 200 rfl AllP.n ?_
 refine VSt.splitO 97 rfl (fun g0=>?_) (fun g0=>?_)
 ·exact absurd (show (!((if parE s a b=0 then parA s a b else 0)==(if parE s a b=0 then parA s a b else 0)))=true from g0) (by simp)
 refine VSt.go tb_ok false [] 200 rfl AllP.n ?_
 refine VSt.splitO 102 rfl (fun g1=>?_) (fun g1=>?_)
 ·exact absurd (show (!(parE s a b==parE s a b))=true from g1) (by simp)
 refine VSt.go tb_ok false [] 200 rfl AllP.n ?_
 refine VSt.pc rfl rfl rfl rfl rfl rfl rfl rfl ((same_if fun h=>by have:=rootIds_few h;omega)) ?_
 refine VSt.go tb_ok false [] 200 rfl AllP.n ?_
 refine VSt.splitO 108 rfl (fun g2=>?_) (fun g2=>?_)
 ·exact absurd (show (!true)=true from g2) (by decide)
 refine VSt.go tb_ok false [] 200 rfl AllP.n ?_
 refine VSt.splitO 113 rfl (fun g3=>?_) (fun g3=>?_)
 ·exact absurd (show (!(studE s==studE s))=true from g3) (by simp)
 refine VSt.go tb_ok false [] 200 rfl AllP.n ?_
 refine VSt.pc rfl rfl rfl rfl rfl rfl rfl rfl ((same_if fun h=>by exact Nat.lt_of_le_of_lt (setL_len _ _) (Nat.lt_of_le_of_lt (words_few h) (by decide)))) ?_
 refine VSt.go tb_ok false [] 200 rfl AllP.n ?_
 refine VSt.splitO 119 rfl (fun g4=>?_) (fun g4=>?_)
 ·exact absurd (show (!true)=true from g4) (by decide)
 refine VSt.go tb_ok false [] 200 rfl AllP.n ?_
 refine VSt.splitO 124 rfl (fun g5=>?_) (fun g5=>?_)
 ·exact absurd (show (!(wordsE s q==wordsE s q))=true from g5) (by simp)
 refine VSt.go tb_ok false [] 200 rfl AllP.n ?_
 refine VSt.pc rfl rfl rfl rfl rfl rfl rfl rfl ((same_if fun h=>by have:=textL_few (studE_zero h).1;omega)) ?_
 refine VSt.go tb_ok false [] 200 rfl AllP.n ?_
 refine VSt.splitO 130 rfl (fun g6=>?_) (fun g6=>?_)
 ·exact absurd (show (!true)=true from g6) (by decide)
 refine VSt.go tb_ok false [] 200 rfl AllP.n ?_
 refine VSt.splitO 135 rfl (fun g7=>?_) (fun g7=>?_)
 ·exact absurd (show (!(studE s==studE s))=true from g7) (by simp)
 refine VSt.go tb_ok false [] 200 rfl AllP.n ?_
 refine VSt.pc rfl rfl rfl rfl rfl rfl rfl rfl ((same_mov s)) ?_
 refine VSt.go tb_ok false [] 200 rfl AllP.n ?_
 refine VSt.splitO 141 rfl (fun g8=>?_) (fun g8=>?_)
 ·exact absurd (show (!true)=true from g8) (by decide)
 refine VSt.go tb_ok false [] 200 rfl AllP.n ?_
 refine VSt.cond rfl (fun g=>absurd (show (!(studE s==studE s))=true from g) (by simp)) (fun _=>?_)
 refine VSt.go tb_ok false [] 200 rfl AllP.n ?_
 by_cases hS:showE s id=0
 ·obtain ⟨e1,e2,e3,e4,e5,e6⟩:=show_least hS
  have hv:=valid_of e1
  have hn:s.copies.length≤7:=hv.c
  have hco:=rCostOf_ok (r:=r) (b:=false) (l:=showL s id) hs (by omega)
  have hrt:=rootOf_ok (r:=r) (s:=s) (b:=false) (l:=showL s id) (by omega)
  have hse:=showError_ok (r:=r) hs id
  rw [e3,e4] at hco
  rw [e5] at hrt
  rw [show knownN s=(searchS s).cost from if_pos e2,e2] at hfe
  rw [hS,if_pos rfl] at hsh
  rw [hS] at hse
  refine VSt.pc rfl rfl rfl rfl rfl rfl rfl rfl (hsh) ?_
  refine VSt.go tb_ok false [] 200 rfl AllP.n ?_
  refine VSt.pc rfl rfl rfl rfl rfl rfl rfl rfl (hse) ?_
  refine VSt.go tb_ok false [] 200 rfl AllP.n ?_
  refine VSt.cond rfl (fun g=>absurd g (by decide)) (fun _=>?_)
  refine VSt.go tb_ok false [] 200 rfl AllP.n ?_
  refine VSt.pc rfl rfl rfl rfl rfl rfl rfl rfl (hfe) ?_
  refine VSt.go tb_ok false [] 200 rfl AllP.n ?_
  refine VSt.pc rfl rfl rfl rfl rfl rfl rfl rfl (hco) ?_
  refine VSt.go tb_ok false [] 200 rfl AllP.n ?_
  refine VSt.splitD 183 rfl (fun k1=>?_) (fun k1=>?_)
  ·refine VSt.go tb_ok false [] 200 rfl AllP.n ?_
   refine VSt.splitD 187 rfl (fun k2=>?_) (fun k2=>?_)
   ·refine VSt.go tb_ok false [] 200 rfl AllP.n ?_
    refine VSt.splitD 191 rfl (fun k3=>?_) (fun k3=>?_)
    ·refine VSt.go tb_ok false [] 200 rfl AllP.n ?_
     refine VSt.splitD 196 rfl (fun k4=>?_) (fun k4=>?_)
     ·refine VSt.go tb_ok false [] 200 rfl AllP.n ?_
      refine VSt.pcD rfl rfl rfl rfl rfl rfl rfl rfl (hrt) ?_
      refine VSt.go tb_ok false [] 200 rfl AllP.n ?_
      refine VSt.splitD 204 rfl (fun k5=>?_) (fun k5=>?_)
      ·refine VSt.go tb_ok false [] 200 rfl AllP.n ?_
       refine VSt.pcD rfl rfl rfl rfl rfl rfl rfl rfl ((VP.hook rfl)) ?_
       refine VSt.go tb_ok false [] 200 rfl AllP.n ?_
       exact EndsP.mk rfl rfl rfl rfl
      ·exact absurd (show (id==id)=false from k5) (by simp)
     ·exact absurd (show ((searchS s).cost==(searchS s).cost)=false from k4) (by simp)
    ·exact absurd k3 (by decide)
   ·exact absurd k2 (by decide)
  ·exact absurd k1 (by decide)
 ·rw [if_neg hS] at hsh
  refine VSt.pc rfl rfl rfl rfl rfl rfl rfl rfl (hsh) ?_
  refine VSt.go tb_ok false [] 200 rfl AllP.n ?_
  refine VSt.pc rfl rfl rfl rfl rfl rfl rfl rfl ((showError_ok hs id)) ?_
  refine VSt.go tb_ok false [] 200 rfl AllP.n ?_
  refine VSt.cond rfl (fun _=>?_) (fun g=>?_)
  ·refine VSt.go tb_ok false [] 200 rfl AllP.n ?_
   refine VSt.splitO 162 rfl (fun k1=>?_) (fun k1=>?_)
   ·refine VSt.go tb_ok false [] 200 rfl AllP.n ?_
    refine VSt.splitO 167 rfl (fun k2=>?_) (fun k2=>?_)
    ·refine VSt.go tb_ok false [] 200 rfl AllP.n ?_
     refine VSt.pc rfl rfl rfl rfl rfl rfl rfl rfl ((VP.hook rfl)) ?_
     refine VSt.go tb_ok false [] 200 rfl AllP.n ?_
     exact EndsP.mk rfl rfl rfl rfl
    ·exact absurd k2 (by decide)
   ·exact absurd (show (showE s id==showE s id)=false from k1) (by simp)
  ·have g:(!(showE s id==0))=false:=g
   exact absurd (by simpa using g) hS
end Go.Proofs.YtncpeobcgmkkbaaGreat
