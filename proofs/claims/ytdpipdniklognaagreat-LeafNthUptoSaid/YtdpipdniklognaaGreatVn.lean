/- The program's LeafNth returns true for all numbers that describe a book and all lists of Ids, without an exception and without changing its arguments: a part of the proof. -/
import Derived.Test.YtdpipdniklognaaGreatProg
import Derived.Test.YtdpipdniklognaaGreatChecked
import Derived.Shelf.Spec.SlicesInsert
import Derived.Lib.AppendZerosOnto
import Derived.Laws.NewBlocks
import Derived.WalkKit
import Derived.Test.YtdpipdniklognaaGreatVb
set_option linter.all false
/- The machine's Insert of one sheet into a list of sheets. -/
set_option maxRecDepth 100000
namespace Go.Proofs.YtdpipdniklognaaGreat
section
open Go.RowKit
variable {P:Program}
theorem z3t (w:World) (dT sT ty elem:TypeId) (sz b o dLen dCap:Nat) (a:Addr) (sLen sCap:Nat) (cs:List Value)
  (hu:P.underlying dT=some (.slice elem)) (hs:(P.info? elem).map (·.size)=some sz) (hn:cs.length=Nat.min sLen dLen*sz)
  (hsrc:∀ j v,cs[j]? = some v→w.cell? (a.add j)=some v) (hc:∀ j,j<cs.length→(w.cell? ⟨b,o+j,none⟩).isSome=true) (hf:∀ j,j<cs.length→w.frozen? ⟨b,o+j,none⟩=false) (h1:∀ v∈cs,v.oneCell'=true) :
  (Builtin.copy_ #[dT,sT] ty #[.slice (some ⟨b,o,none⟩) dLen dCap,.slice (some a) sLen sCap]).run P w = .ok (goInt (Nat.min sLen dLen)) (w.setCells b o cs):=by
 have hl:=run_loadCells_list (P:=P) w a cs hsrc
 have hst:=run_storeCells_cells (P:=P) b o cs 0 w (by simpa using hc) (by simpa using hf) h1
 cases hq:P.info? elem with
 | none=>simp [hq] at hs
 | some i =>
  have hi:i.size=sz:=by simpa [hq] using hs
  simp [Builtin.copy_,run_underlying hu,Builtin.lenOf,Builtin.firstCells,sizeOf,typeInfo,hq,hi,←hn,hl,hst]
theorem z7H:(Tryz.prog.info? 74).map (·.size)=some 6:=by kernel_rfl
set_option maxHeartbeats 4000000 in
set_option maxRecDepth 100000 in
theorem zcf (b off n c i vb voff vc:Nat) (cs vs:List Value) (w:World) (hi:i<n) (hroom:n+1≤c) (hlim:n+1≤1048576) (hvb:vb≠b)
  (hcl:cs.length=n*6) (hvl:vs.length=6)
  (hcs:∀ j v,cs[j]? = some v→w.cell? ⟨b,off+j,none⟩=some v) (hsp:∀ j,j<(n+1)*6→(w.cell? ⟨b,off+j,none⟩).isSome=true) (hfz:∀ j,j<(n+1)*6→w.frozen? ⟨b,off+j,none⟩=false)
  (hvs:∀ j v,vs[j]? = some v→w.cell? ⟨vb,voff+j,none⟩=some v) (h1c:∀ v∈cs,v.oneCell'=true) (h1v:∀ v∈vs,v.oneCell'=true)
  (tA tB:TypeId) (kA kB:Nat) (hsa:w.shape? vb=some (tA,kA)) (hsb:w.shape? b=some (tB,kB)) (hkB:kB≠0) (hfa:w.frozen? ⟨vb,voff,none⟩=false) (hfe:w.frozen? ⟨vb,kA,none⟩=false) :
  Calls Tryz.prog 108 #[.slice (some ⟨b,off,none⟩) n c,.int .i64 i,.slice (some ⟨vb,voff,none⟩) 1 vc] w fun e w' =>
   e = .returned (.slice (some ⟨b,off,none⟩) (n+1) c)∧w'=(w.drew.setCells b (off+(i+1)*6) (cs.drop (i*6))).setCells b (off+i*6) vs:=by
 have hz2:¬ ((i:Int)=(n:Int)):=by omega
 have hov:∀ lb cb,(callFunc 147 #[.slice (some ⟨vb,voff,none⟩) 1 vc,.slice (some ⟨b,off+(i+1)*6,none⟩) lb cb]).run Tryz.prog w = .ok (.value (.bool false)) w:=fun lb cb=>by
  rw [run_callFunc_extern Tryz.func147 (by kernel_rfl) (by kernel_rfl) (by kernel_rfl) (e:=Extern.SlicesOverlaps.overlaps #[22,22] #[4]) (by kernel_rfl),
   Lib.run_overlaps_apart w 22 4 74 Tryz.underlying22 6 Tryz.sizeOf74 ⟨vb,voff,none⟩ ⟨b,off+(i+1)*6,none⟩ 1 vc lb cb hvb tA tB kA kB hsa hsb hkB hfa hfe]
  rfl
 have hdl:(cs.drop (i*6)).length=(n - i)*6:=by rw [List.length_drop,hcl,Nat.sub_mul]
 have hw1:IntKind.i64.wrap ((i:Int)+1)=(i:Int)+1:=by rw [IntKind.wrap_i64];omega
 have hw2:IntKind.i64.wrap ((n:Int)+1)=(n:Int)+1:=by rw [IntKind.wrap_i64];omega
 have mixed:Tryz.prog.follows .mixedOrders=true:=by kernel_rfl
 have hin:i≤n:=by omega
 have htn:((i:Int)+1).toNat=i+1:=by omega
 have hb1:(0:Int)≤(i:Int)+1:=by omega
 have hb2:¬ (c=i+1):=by omega
 have hb3:(i:Int)≤(n:Int)+1:=by omega
 have hb4:¬ (c=i):=by omega
 have hcp1:∀ ty dc sc,(Builtin.copy_ #[22,22] ty #[.slice (some ⟨b,off+(i+1)*6,none⟩) (n - i) dc,.slice (some ⟨b,off+i*6,none⟩) (n+1 - i) sc]).run Tryz.prog w.drew = .ok (goInt (Nat.min (n+1 - i) (n - i))) (w.drew.setCells b (off+(i+1)*6) (cs.drop (i*6))):=fun ty dc sc =>
  z3t w.drew _ _ ty 74 6 b (off+(i+1)*6) (n - i) dc ⟨b,off+i*6,none⟩ (n+1 - i) sc (cs.drop (i*6)) Tryz.underlying22 z7H (by rw [hdl,show Nat.min (n+1 - i) (n - i)=n - i by simp only [Nat.min_def];split <;> omega])
   (fun j v hj=>by rw [Addr.add_lit,Nat.add_assoc];exact hcs (i*6+j) v (by rwa [List.getElem?_drop] at hj))
   (fun j hj=>by rw [Nat.add_assoc];exact hsp _ (by omega)) (fun j hj=>by rw [Nat.add_assoc];exact hfz _ (by omega)) (fun v hv=>h1c v (List.mem_of_mem_drop hv))
 obtain ⟨W1,hW1⟩:∃ W1,W1=w.drew.setCells b (off+(i+1)*6) (cs.drop (i*6)):=⟨_,rfl⟩
 have hsp1:∀ k,k<(n+1)*6→(W1.cell? ⟨b,off+k,none⟩).isSome=true:=fun k hk=>by
  rw [hW1]
  exact isSome_setCells b _ _ _ (fun j hj=>by rw [Nat.add_assoc];exact hsp _ (by omega)) _ (hsp k hk)
 have hcp2:∀ (W:World),(∀ x,W.cell? x=W1.cell? x)→(∀ x,W.frozen? x=W1.frozen? x)→∀ ty dc,(Builtin.copy_ #[22,22] ty #[.slice (some ⟨b,off+i*6,none⟩) (n+1 - i) dc,.slice (some ⟨vb,voff,none⟩) 1 vc]).run Tryz.prog W = .ok (goInt (Nat.min 1 (n+1 - i))) (W.setCells b (off+i*6) vs):=fun W hWc hWf ty dc =>
  z3t W _ _ ty 74 6 b (off+i*6) (n+1 - i) dc ⟨vb,voff,none⟩ 1 vc vs Tryz.underlying22 z7H (by rw [hvl,show Nat.min 1 (n+1 - i)=1 by simp only [Nat.min_def];split <;> omega])
   (fun j v hj=>by
    rw [Addr.add_lit,hWc,hW1,World.cell?_setCells_out b _ _ _ _ (fun h _=>absurd h hvb)]
    exact hvs j v hj)
   (fun j hj=>by rw [hWc,Nat.add_assoc];exact hsp1 _ (by omega)) (fun j hj=>by rw [hWf,hW1,World.frozen?_setCells,Nat.add_assoc];exact hfz _ (by omega)) h1v
 rw [←hW1] at hcp1
 go_enter Tryz.func108,Tryz.ntmps108
 go_wp2_with (simp only [hov])
 go_region_law_o (refine step_copy_runI rfl _ _ 22 22 rfl _ _ (by simp [Act.eval,Act.put]) (by simp [Act.eval,Act.put]) (hcp1 _ _ _) ?_)
 go_wp2_with (at_builtin;refine wpList_copy_runI _ rfl _ _ 22 22 rfl _ _ rfl rfl (hcp2 _ (fun _=>rfl) (fun _=>rfl) _ _) ?_)
 go_ret
 first | exact ⟨rfl,rfl⟩ | exact ⟨rfl,by rw [hW1]⟩
theorem zeP:(Tryz.prog.info? 74).isSome=true:=by kernel_rfl
noncomputable def opnI:TypeInfo:=(Tryz.prog.info? 74).get zeP
theorem z7C:Tryz.prog.info? 74=some opnI:=(Option.some_get zeP).symm
theorem z1M:opnI.size=6:=by kernel_rfl
theorem z5I:opnI.bytes=48:=by kernel_rfl
theorem zeO:opnI.zero.isSome=true:=by kernel_rfl
noncomputable def opnZ:Value:=opnI.zero.get zeO
theorem zne:opnI.zero=some opnZ:=(Option.some_get zeO).symm
theorem zhX:opnZ.cells.size=6:=by kernel_rfl
set_option maxHeartbeats 4000000 in
set_option maxRecDepth 100000 in
theorem z8J (b off n c vb voff vc:Nat) (vs:List Value) (w:World) (hroom:n+1≤c)
  (hvl:vs.length=6) (hsp:∀ j,j<6→(w.cell? ⟨b,off+n*6+j,none⟩).isSome=true) (hfz:∀ j,j<6→w.frozen? ⟨b,off+n*6+j,none⟩=false)
  (hvs:∀ j v,vs[j]? = some v→w.cell? ⟨vb,voff+j,none⟩=some v) (h1v:∀ v∈vs,v.oneCell'=true) :
  Calls Tryz.prog 108 #[.slice (some ⟨b,off,none⟩) n c,.int .i64 n,.slice (some ⟨vb,voff,none⟩) 1 vc] w fun e w' =>
   e = .returned (.slice (some ⟨b,off,none⟩) (n+1) c)∧w'=w.setCells b (off+n*6) vs:=by
 have mixed:Tryz.prog.follows .mixedOrders=true:=by kernel_rfl
 have hsrc:Src Tryz.prog opnI.size 22 (.slice (some ⟨vb,voff,none⟩) 1 vc) 1 vs w:=by
  rw [z1M]
  exact Src.ofSlice w Tryz.underlying22 ⟨vb,voff,none⟩ 1 vc vs (by omega) (fun j u hj=>by rw [Addr.add_lit];exact hvs j u hj) h1v
 have hrun:∀ ty,(Builtin.append_ #[22,22] ty #[.slice (some ⟨b,off,none⟩) n c,.slice (some ⟨vb,voff,none⟩) 1 vc]).run Tryz.prog w=_:=fun ty =>
  run_append_room_src w 22 22 ty 74 opnI Tryz.underlying22 z7C b off n c _ 1 vs hsrc hroom (by rw [hvl,z1M];exact hsp) (by rw [hvl,z1M];exact hfz)
 rw [z1M] at hrun
 go_enter Tryz.func108,Tryz.ntmps108
 go_wp2_with (at_builtin;refine Lib.wpList_append_run _ rfl _ _ _ _ rfl _ _ rfl rfl _ _ (hrun _) ?_)
 go_ret
 exact ⟨rfl,rfl⟩
set_option maxHeartbeats 4000000 in
set_option maxRecDepth 100000 in
theorem z8K (b off n c vb voff vc:Nat) (cs vs:List Value) (w:World) (hnc:n≤c) (hroom:c<n+1) (hbig:(n+1)*48≤140737488355328)
  (hcl:cs.length=n*6) (hvl:vs.length=6)
  (hcs:∀ j v,cs[j]? = some v→w.cell? ⟨b,off+j,none⟩=some v)
  (hvs:∀ j v,vs[j]? = some v→w.cell? ⟨vb,voff+j,none⟩=some v) (h1v:∀ v∈vs,v.oneCell'=true) :
  Calls Tryz.prog 108 #[.slice (some ⟨b,off,none⟩) n c,.int .i64 n,.slice (some ⟨vb,voff,none⟩) 1 vc] w fun e w' =>
   e = .returned (.slice (some ⟨w.heap.size,0,none⟩) (n+1) (grownCap w (n+1) c 74)) ∧
   w'=w.drew.alloc (.cells ((cs++vs).toArray++Builtin.zeroCells opnZ.cells (grownCap w (n+1) c 74 - (n+1))) 74):=by
 have mixed:Tryz.prog.follows .mixedOrders=true:=by kernel_rfl
 have hsrc:Src Tryz.prog opnI.size 22 (.slice (some ⟨vb,voff,none⟩) 1 vc) 1 vs w:=by
  rw [z1M]
  exact Src.ofSlice w Tryz.underlying22 ⟨vb,voff,none⟩ 1 vc vs (by omega) (fun j u hj=>by rw [Addr.add_lit];exact hvs j u hj) h1v
 have hold:(Builtin.firstCells opnI.size n (.slice (some ⟨b,off,none⟩) n c)).run Tryz.prog w.drew = .ok cs.toArray w.drew:=by
  rw [z1M]
  exact run_firstCells_some w.drew 6 n ⟨b,off,none⟩ n c cs hcl (fun j v hj=>by rw [Addr.add_lit];exact hcs j v hj)
 have hrun:∀ ty,(Builtin.append_ #[22,22] ty #[.slice (some ⟨b,off,none⟩) n c,.slice (some ⟨vb,voff,none⟩) 1 vc]).run Tryz.prog w=_:=fun ty =>
  run_append_grow_src w 22 22 ty 74 opnI opnZ Tryz.underlying22 z7C zne (some ⟨b,off,none⟩) n c cs hold _ 1 vs hsrc hroom (by omega) (by rw [z5I];exact growslice_fits hroom hbig)
 obtain ⟨ZC,hZC⟩:∃ ZC,ZC=opnZ.cells:=⟨_,rfl⟩
 rw [←hZC] at hrun ⊢
 clear hZC hold
 go_enter Tryz.func108,Tryz.ntmps108
 go_wp2_with (at_builtin;refine Lib.wpList_append_run _ rfl _ _ _ _ rfl _ _ rfl rfl _ _ (hrun _) ?_)
 go_ret
 exact ⟨rfl,rfl⟩
set_option maxHeartbeats 4000000 in
set_option maxRecDepth 100000 in
theorem zdL (b off n c i vb voff vc:Nat) (cs vs:List Value) (w:World) (hi:i<n) (hnc:n≤c) (hroom:c<n+1) (hbig:(n+1)*48≤140737488355328)
  (hcl:cs.length=n*6) (hvl:vs.length=6)
  (hcs:∀ j v,cs[j]? = some v→w.cell? ⟨b,off+j,none⟩=some v)
  (hvs:∀ j v,vs[j]? = some v→w.cell? ⟨vb,voff+j,none⟩=some v) (h1c:∀ v∈cs,v.oneCell'=true) (h1v:∀ v∈vs,v.oneCell'=true) :
  Calls Tryz.prog 108 #[.slice (some ⟨b,off,none⟩) n c,.int .i64 i,.slice (some ⟨vb,voff,none⟩) 1 vc] w fun e w' =>
   e = .returned (.slice (some ⟨w.heap.size,0,none⟩) (n+1) (grownCap w (n+1) c 74)) ∧
   w'=(((w.alloc (.cells ((cs.take (i*6)).toArray++Builtin.zeroCells opnZ.cells (n+1 - i)++Builtin.zeroCells opnZ.cells (grownCap w (n+1) c 74 - (n+1))) 74)).drew.setCells w.heap.size (i*6) vs).drew).setCells w.heap.size ((i+1)*6) (cs.drop (i*6)):=by
 have mixed:Tryz.prog.follows .mixedOrders=true:=by kernel_rfl
 have hz2:¬ ((i:Int)=(n:Int)):=by omega
 have hz3:(c:Int)<(n:Int)+1:=by omega
 have hbw:b<w.heap.size:=block_lt_of_cell (hcs 0 _ (List.getElem?_eq_getElem (by omega)))
 have hvw:vb<w.heap.size:=block_lt_of_cell (hvs 0 _ (List.getElem?_eq_getElem (by omega)))
 have hkk:(n:Int)+1 - (i:Int)=((n+1 - i:Nat):Int):=by omega
 have hik:i+(n+1 - i)=n+1:=by omega
 have hold:(Builtin.firstCells opnI.size i (.slice (some ⟨b,off,none⟩) i c)).run Tryz.prog w.drew = .ok (cs.take (i*6)).toArray w.drew:=by
  rw [z1M]
  exact run_firstCells_some w.drew 6 i ⟨b,off,none⟩ i c (cs.take (i*6)) (by rw [List.length_take];omega) (fun j v hj=>by
   rw [Addr.add_lit]
   rw [List.getElem?_take] at hj
   split at hj
   ·exact hcs j v hj
   ·cases hj)
 have hrz:∀ ty,(Builtin.append_ #[22,3] ty #[.slice (some ⟨b,off,none⟩) i c,.int .i64 ((n:Int)+1 - (i:Int))]).run Tryz.prog w =
   .ok (.slice (some ⟨w.heap.size,0,none⟩) (n+1) (grownCap w (n+1) c 74)) (w.drew.alloc (.cells ((cs.take (i*6)).toArray++Builtin.zeroCells opnZ.cells (n+1 - i)++Builtin.zeroCells opnZ.cells (grownCap w (n+1) c 74 - (n+1))) 74)):=fun ty=>by
  have h:=Lib.run_append_grow_zeros w 22 3 ty 74 opnI opnZ .i64 .i64 Tryz.underlying22 Tryz.underlying3 z7C zne (some ⟨b,off,none⟩) i c (cs.take (i*6)) hold (n+1 - i) (by omega) (by rw [z1M];decide) (by omega) (by omega) (by rw [z5I];omega) (by rw [z5I,hik];exact growslice_fits hroom hbig)
  rw [hik] at h
  rw [hkk]
  exact h
 obtain ⟨G,hG⟩:∃ G,G=grownCap w (n+1) c 74:=⟨_,rfl⟩
 obtain ⟨ROW,hROW⟩:∃ ROW:Array Value,ROW=(cs.take (i*6)).toArray++Builtin.zeroCells opnZ.cells (n+1 - i)++Builtin.zeroCells opnZ.cells (G - (n+1)):=⟨_,rfl⟩
 rw [←hG] at hrz ⊢
 rw [←hROW] at hrz ⊢
 have hRl:(n+1)*6≤ROW.size:=by
  have e1:∀ k,(Builtin.zeroCells opnZ.cells k).size=k*6:=fun k=>by
   rw [size_zeroCells,zhX]
  rw [hROW,Array.size_append,Array.size_append,e1,e1,List.size_toArray,List.length_take]
  omega
 obtain ⟨W1,hW1⟩:∃ W1,W1=w.drew.alloc (.cells ROW 74):=⟨_,rfl⟩
 rw [←hW1] at hrz
 have hN:∀ j,j<(n+1)*6→(W1.cell? ⟨w.heap.size,j,none⟩).isSome=true:=fun j hj=>by
  rw [hW1,World.cell?_alloc_at (w:=w.drew) ROW _ w.heap.size j rfl,Array.getElem?_eq_getElem (by omega)];rfl
 have hNf:∀ j,W1.frozen? ⟨w.heap.size,j,none⟩=false:=fun j=>by rw [hW1];exact World.frozen?_alloc_at (w:=w.drew) ROW _ w.heap.size j rfl
 have hOb:∀ j v,w.cell? ⟨b,j,none⟩=some v→W1.cell? ⟨b,j,none⟩=some v:=fun j v h=>by rw [hW1,World.cell?_alloc_past (w:=w.drew) _ b j hbw];exact h
 have hOv:∀ j v,w.cell? ⟨vb,j,none⟩=some v→W1.cell? ⟨vb,j,none⟩=some v:=fun j v h=>by rw [hW1,World.cell?_alloc_past (w:=w.drew) _ vb j hvw];exact h
 have hcpA:∀ (W:World),(∀ x,W.cell? x=W1.cell? x)→(∀ x,W.frozen? x=W1.frozen? x)→∀ ty dc,(Builtin.copy_ #[22,22] ty #[.slice (some ⟨w.heap.size,i*6,none⟩) (n+1 - i) dc,.slice (some ⟨vb,voff,none⟩) 1 vc]).run Tryz.prog W = .ok (goInt (Nat.min 1 (n+1 - i))) (W.setCells w.heap.size (i*6) vs):=fun W hWc hWf ty dc =>
  z3t W _ _ ty 74 6 w.heap.size (i*6) (n+1 - i) dc ⟨vb,voff,none⟩ 1 vc vs Tryz.underlying22 z7H (by rw [hvl,show Nat.min 1 (n+1 - i)=1 by simp only [Nat.min_def];split <;> omega])
   (fun j v hj=>by rw [Addr.add_lit,hWc];exact hOv _ v (hvs j v hj))
   (fun j hj=>by rw [hWc];exact hN _ (by omega)) (fun j hj=>by rw [hWf];exact hNf _) h1v
 have hGn:n+1≤G:=by rw [hG];exact grownCap_ge w _ _ _
 have hG63:G≤9223372036854775807:=by
  have:=grownCap_le_maxLen w (n+1) c 74 (by unfold maxLen;omega)
  rw [←hG] at this
  unfold maxLen at this
  omega
 have hGi:¬ (G=i):=by omega
 have hGim:¬ (G=i+1):=by omega
 have hci:¬ (c=i):=by omega
 have hbN:b≠w.heap.size:=by omega
 have hdl:(cs.drop (i*6)).length=(n - i)*6:=by rw [List.length_drop,hcl,Nat.sub_mul]
 have hcpB:∀ (W:World),(∀ x,W.cell? x=(W1.setCells w.heap.size (i*6) vs).cell? x)→(∀ x,W.frozen? x=(W1.setCells w.heap.size (i*6) vs).frozen? x)→∀ ty dc sc,(Builtin.copy_ #[22,22] ty #[.slice (some ⟨w.heap.size,(i+1)*6,none⟩) (n - i) dc,.slice (some ⟨b,off+i*6,none⟩) (n - i) sc]).run Tryz.prog W = .ok (goInt (Nat.min (n - i) (n - i))) (W.setCells w.heap.size ((i+1)*6) (cs.drop (i*6))):=fun W hWc hWf ty dc sc =>
  z3t W _ _ ty 74 6 w.heap.size ((i+1)*6) (n - i) dc ⟨b,off+i*6,none⟩ (n - i) sc (cs.drop (i*6)) Tryz.underlying22 z7H (by rw [hdl];simp only [Nat.min_def];split <;> omega)
   (fun j v hj=>by
    rw [Addr.add_lit,hWc,World.cell?_setCells_out _ _ _ _ _ (fun h _=>absurd h hbN),Nat.add_assoc]
    exact hOb _ v (hcs (i*6+j) v (by rwa [List.getElem?_drop] at hj)))
   (fun j hj=>by rw [hWc];exact isSome_setCells _ _ _ _ (fun t ht=>hN _ (by omega)) _ (hN _ (by omega)))
   (fun j hj=>by rw [hWf,World.frozen?_setCells];exact hNf _) (fun v hv=>h1c v (List.mem_of_mem_drop hv))
 subst hW1
 have hE1:∀ x,((w.alloc (.cells ROW 74)).drew).cell? x=(w.drew.alloc (.cells ROW 74)).cell? x:=fun x=>rfl
 have hE2:∀ x,((w.alloc (.cells ROW 74)).drew).frozen? x=(w.drew.alloc (.cells ROW 74)).frozen? x:=fun x=>rfl
 have hF1:∀ x,(((w.alloc (.cells ROW 74)).drew.setCells w.heap.size (i*6) vs).drew).cell? x=((w.drew.alloc (.cells ROW 74)).setCells w.heap.size (i*6) vs).cell? x:=fun x=>rfl
 have hF2:∀ x,(((w.alloc (.cells ROW 74)).drew.setCells w.heap.size (i*6) vs).drew).frozen? x=((w.drew.alloc (.cells ROW 74)).setCells w.heap.size (i*6) vs).frozen? x:=fun x=>rfl
 have hw1:IntKind.i64.wrap ((i:Int)+1)=(i:Int)+1:=by rw [IntKind.wrap_i64];omega
 have hw2:IntKind.i64.wrap ((n:Int)+1)=(n:Int)+1:=by rw [IntKind.wrap_i64];omega
 have hb1:(0:Int)≤(i:Int)+1:=by omega
 have hin:i≤n:=by omega
 have htn:((i:Int)+1).toNat=i+1:=by omega
 have hb3:(i:Int)≤(n:Int):=by omega
 clear hkk hik hold hROW hG hRl
 go_enter Tryz.func108,Tryz.ntmps108
 go_wp2_with (first
  | (at_builtin;refine Lib.wpList_append_run _ rfl _ _ _ _ rfl _ _ rfl rfl _ _ (hrz _) ?_)
  | (at_builtin;refine wpList_copy_runI _ rfl _ _ 22 22 rfl _ _ rfl rfl (hcpA _ hE1 hE2 _ _) ?_))
 go_region_law_o (refine step_copy_runI rfl _ _ 22 22 rfl (.slice (some ⟨w.heap.size,(i+1)*6,none⟩) (n - i) (G - (i+1))) (.slice (some ⟨b,off+i*6,none⟩) (n - i) (c - i)) (by simp [Act.eval,Act.put]) (by simp [Act.eval,Act.put]) (hcpB _ hF1 hF2 3 (G - (i+1)) (c - i)) ?_)
 go_wp2
 go_ret
 exact ⟨rfl,rfl⟩
set_option maxHeartbeats 4000000 in
set_option maxRecDepth 100000 in
theorem zdK (base:Option Addr) (vb voff vc:Nat) (vs:List Value) (w:World) (hvl:vs.length=6)
  (hvs:∀ j v,vs[j]? = some v→w.cell? ⟨vb,voff+j,none⟩=some v) (h1v:∀ v∈vs,v.oneCell'=true) :
  Calls Tryz.prog 108 #[.slice base 0 0,.int .i64 0,.slice (some ⟨vb,voff,none⟩) 1 vc] w fun e w' =>
   e = .returned (.slice (some ⟨w.heap.size,0,none⟩) 1 (grownCap w 1 0 74)) ∧
   w'=w.drew.alloc (.cells (vs.toArray++Builtin.zeroCells opnZ.cells (grownCap w 1 0 74 - 1)) 74):=by
 have mixed:Tryz.prog.follows .mixedOrders=true:=by kernel_rfl
 have hsrc:Src Tryz.prog opnI.size 22 (.slice (some ⟨vb,voff,none⟩) 1 vc) 1 vs w:=by
  rw [z1M]
  exact Src.ofSlice w Tryz.underlying22 ⟨vb,voff,none⟩ 1 vc vs (by omega) (fun j u hj=>by rw [Addr.add_lit];exact hvs j u hj) h1v
 have hold:(Builtin.firstCells opnI.size 0 (.slice base 0 0)).run Tryz.prog w.drew = .ok (([]:List Value)).toArray w.drew:=by
  rw [z1M]
  cases base with
  | none=>exact run_firstCells_none w.drew 6 0 0 0
  | some a=>exact run_firstCells_some w.drew 6 0 a 0 0 [] rfl (fun j v hj=>by cases hj)
 have hrun:∀ ty,(Builtin.append_ #[22,22] ty #[.slice base 0 0,.slice (some ⟨vb,voff,none⟩) 1 vc]).run Tryz.prog w=_:=fun ty =>
  run_append_grow_src w 22 22 ty 74 opnI opnZ Tryz.underlying22 z7C zne base 0 0 [] hold _ 1 vs hsrc (by omega) (by omega) (by rw [z5I];exact growslice_fits (by omega) (by omega))
 obtain ⟨ZC,hZC⟩:∃ ZC,ZC=opnZ.cells:=⟨_,rfl⟩
 rw [←hZC] at hrun ⊢
 clear hZC hold
 rw [List.nil_append] at hrun
 go_enter Tryz.func108,Tryz.ntmps108
 cases base with
 | none =>
  go_wp2_with (at_builtin;refine Lib.wpList_append_run _ rfl _ _ _ _ rfl _ _ rfl rfl _ _ (hrun _) ?_)
  all_goals (go_ret;exact ⟨rfl,rfl⟩)
 | some a =>
  obtain ⟨ab,ao,asp⟩:=a
  go_wp2_with (at_builtin;refine Lib.wpList_append_run _ rfl _ _ _ _ rfl _ _ rfl rfl _ _ (hrun _) ?_)
  all_goals (go_ret;exact ⟨rfl,rfl⟩)
end
section
open Go.RowKit
theorem z1R {P:Program} (w:World) (g o:Nat) (cur:Array Value) (t:TypeId) (vs:List Value) (hg:w.heap[g]? = some (.cells cur t (0,0))) (hfit:o+vs.length≤cur.size) (h1:∀ v∈vs,v.oneCell'=true) :
  w.setCells g o vs=w.setRow g (cur.toList.take o++vs++cur.toList.drop (o+vs.length)).toArray:=by
 have a:=run_storeCells_cells (P:=P) g o vs 0 w (fun j hj=>by rw [cell_of_row _ _ _ _ _ _ hg,Array.getElem?_eq_getElem (by omega)];rfl) (fun j _=>frozen_of_row _ _ _ _ _ hg) h1
 have b:=run_storeCells_at P g o t vs 0 cur w hg (by simpa using hfit) h1
 simp only [Nat.add_zero] at a b
 rw [a] at b
 injection b
theorem z5F {c vs:List Value} {o q:Nat} (h:o+vs.length≤c.length):(c.take o++vs++c.drop (o+vs.length))[q]? = if o≤q∧q<o+vs.length then vs[q - o]? else c[q]? :=by
 by_cases h1:q<o
 ·rw [if_neg (by omega),List.append_assoc,List.getElem?_append_left (by rw [List.length_take];omega),List.getElem?_take,if_pos h1]
 ·by_cases h2:q<o+vs.length
  ·rw [if_pos ⟨by omega,h2⟩,List.append_assoc,List.getElem?_append_right (by rw [List.length_take];omega),List.length_take,List.getElem?_append_left (by omega)]
   congr 1;omega
  ·rw [if_neg (by omega),List.getElem?_append_right (by rw [List.length_append,List.length_take];omega),List.length_append,List.length_take,List.getElem?_drop]
   congr 1;omega
theorem zaO {i n:Nat} {old new:List Value} {q:Nat} (h:old.length=n*6) (h2:new.length=6) (hi:i≤n) :
  (z6D 6 i old new)[q]? = if q<i*6 then old[q]? else if q<(i+1)*6 then new[q - i*6]? else old[q - 6]? :=by
 unfold z6D
 have hle:i*6≤n*6:=Nat.mul_le_mul_right _ hi
 by_cases h3:q<i*6
 ·rw [if_pos h3,List.append_assoc,List.getElem?_append_left (by rw [List.length_take];omega),List.getElem?_take,if_pos h3]
 ·rw [if_neg h3]
  by_cases h4:q<(i+1)*6
  ·rw [if_pos h4,List.append_assoc,List.getElem?_append_right (by rw [List.length_take];omega),List.length_take,List.getElem?_append_left (by omega)]
   congr 1;omega
  ·rw [if_neg h4,List.getElem?_append_right (by rw [List.length_append,List.length_take];omega),List.length_append,List.length_take,List.getElem?_drop]
   congr 1;omega
theorem ziy:zom Tryz.prog 108 74 6:=by
 intro b off n c i vb voff vc old new w cb cv tb tv hin h0 hnc hlim hol hnl hne hv hvn hn1 ho1 hb hfit hbo
 have hcbl:cb.toList.length=cb.size:=Array.length_toList
 have hcs:∀ j v,old[j]? = some v→w.cell? ⟨b,off+j,none⟩=some v:=fun j v hj=>by rw [cell_of_row _ _ _ _ _ _ hb];exact hbo j v hj
 have hvs:∀ j v,new[j]? = some v→w.cell? ⟨vb,voff+j,none⟩=some v:=fun j v hj=>by rw [cell_of_row _ _ _ _ _ _ hv];exact hvn j v hj
 by_cases hroom:n+1≤c
 ·have hm:(n+1)*6≤c*6:=Nat.mul_le_mul_right _ hroom
  by_cases hi:i=n
  ·subst hi
   refine (z8J b off i c vb voff vc new w hroom hnl (fun j hj=>by rw [cell_of_row _ _ _ _ _ _ hb,Array.getElem?_eq_getElem (by omega)];rfl) (fun j _=>frozen_of_row _ _ _ _ _ hb) hvs hn1).mono ?_
   rintro ex w' ⟨rfl,rfl⟩
   rw [z1R (P:=Tryz.prog) w b (off+i*6) cb tb new hb (by omega) hn1]
   refine .inl ⟨hroom,_,rfl,⟨rfl,rfl,rfl⟩,setRow_size _ _ _,fun k hk=>setRow_other _ _ _ _ hk,setRow_heap _ _ _ _ _ _ hb,?_,fun q v hq=>?_⟩
   ·rw [List.size_toArray,List.length_append,List.length_append,List.length_take,List.length_drop,hcbl,Nat.min_eq_left (by omega)];omega
   ·have hql:q<(i+1)*6:=by
     have h1:=(List.getElem?_eq_some_iff.1 hq).1
     have h2:=z4A (sz:=6) hol hnl hin
     omega
    rw [zaO hol hnl hin] at hq
    rw [List.getElem?_toArray,z5F (by rw [hcbl];omega)]
    by_cases h1:q<i*6
    ·rw [if_pos h1] at hq
     rw [if_neg (by omega),Array.getElem?_toList];exact hbo q v hq
    ·rw [if_neg h1,if_pos hql] at hq
     rw [if_pos (by omega),show off+q - (off+i*6)=q - i*6 by omega];exact hq
  ·have hi:i<n:=by omega
   have hm2:(i+1)*6≤n*6:=Nat.mul_le_mul_right _ hi
   have hdl:(old.drop (i*6)).length=n*6 - i*6:=by rw [List.length_drop,hol]
   refine (zcf b off n c i vb voff vc old new w hi hroom hlim (fun e=>hne e.symm) hol hnl hcs (fun j hj=>by rw [cell_of_row _ _ _ _ _ _ hb,Array.getElem?_eq_getElem (by omega)];rfl) (fun j _=>frozen_of_row _ _ _ _ _ hb) hvs ho1 hn1
    tv tb cv.size cb.size (by simp [World.shape?,hv]) (by simp [World.shape?,hb]) (by omega) (frozen_of_row _ _ _ _ _ hv) (frozen_of_row _ _ _ _ _ hv)).mono ?_
   rintro ex w' ⟨rfl,rfl⟩
   have e1:=z1R (P:=Tryz.prog) w.drew b (off+(i+1)*6) cb tb (old.drop (i*6)) hb (by omega) (fun v hv=>ho1 v (List.mem_of_mem_drop hv))
   rw [e1]
   have hb2:(w.drew.setRow b (cb.toList.take (off+(i+1)*6)++old.drop (i*6)++cb.toList.drop (off+(i+1)*6+(old.drop (i*6)).length)).toArray).heap[b]? = some (.cells (cb.toList.take (off+(i+1)*6)++old.drop (i*6)++cb.toList.drop (off+(i+1)*6+(old.drop (i*6)).length)).toArray tb (0,0)):=setRow_heap _ _ _ _ _ _ hb
   have hl1:(cb.toList.take (off+(i+1)*6)++old.drop (i*6)++cb.toList.drop (off+(i+1)*6+(old.drop (i*6)).length)).length=cb.size:=by
    simp only [List.length_append,List.length_take,List.length_drop,hcbl,hol]
    rw [Nat.min_eq_left (by omega)];omega
   have hp1:∀ q,(cb.toList.take (off+(i+1)*6)++old.drop (i*6)++cb.toList.drop (off+(i+1)*6+(old.drop (i*6)).length))[q]? = if off+(i+1)*6≤q∧q<off+(i+1)*6+(old.drop (i*6)).length then (old.drop (i*6))[q - (off+(i+1)*6)]? else cb[q]? :=fun q=>by
    rw [z5F (by rw [hcbl];omega),show cb.toList[q]? = cb[q]? from Array.getElem?_toList]
   generalize cb.toList.take (off+(i+1)*6)++old.drop (i*6)++cb.toList.drop (off+(i+1)*6+(old.drop (i*6)).length)=r1 at *
   have e2:=z1R (P:=Tryz.prog) (w.drew.setRow b r1.toArray) b (off+i*6) r1.toArray tb new hb2 (by rw [List.size_toArray];omega) hn1
   rw [e2]
   refine .inl ⟨hroom,_,rfl,⟨rfl,rfl,rfl⟩,?_,fun k hk=>?_,setRow_heap _ _ _ _ _ _ hb2,?_,fun q v hq=>?_⟩
   ·rw [setRow_size,setRow_size];rfl
   ·rw [setRow_other _ _ _ _ hk,setRow_other _ _ _ _ hk];rfl
   ·show List.length _=_
    rw [List.length_append,List.length_append,List.length_take,List.length_drop]
    show _+_+(r1.length - _)=_
    show min _ r1.length+_+_=_
    omega
   ·have hql:q<(n+1)*6:=by
     have h1:=(List.getElem?_eq_some_iff.1 hq).1
     have h2:=z4A (sz:=6) hol hnl hin
     omega
    rw [zaO hol hnl hin] at hq
    rw [List.getElem?_toArray]
    show (r1.take (off+i*6)++new++r1.drop (off+i*6+new.length))[off+q]? = some v
    rw [z5F (by omega),hp1]
    by_cases h1:q<i*6
    ·rw [if_pos h1] at hq
     rw [if_neg (by omega),if_neg (by omega)];exact hbo q v hq
    ·rw [if_neg h1] at hq
     by_cases h2:q<(i+1)*6
     ·rw [if_pos h2] at hq
      rw [if_pos (by omega),show off+q - (off+i*6)=q - i*6 by omega];exact hq
     ·rw [if_neg h2] at hq
      rw [if_neg (by omega),if_pos (by omega),List.getElem?_drop,show i*6+(off+q - (off+(i+1)*6))=q - 6 by omega];exact hq
 ·have hzs:∀ k,(Builtin.zeroCells opnZ.cells k).size=k*6:=fun k=>by rw [size_zeroCells,zhX]
  have hgc:=grownCap_ge w (n+1) c 74
  have hbig:(n+1)*48≤140737488355328:=by omega
  by_cases hi:i=n
  ·subst hi
   refine (z8K b off i c vb voff vc old new w hnc (by omega) hbig hol hnl hcs hvs hn1).mono ?_
   rintro ex w' ⟨rfl,rfl⟩
   generalize grownCap w (i+1) c 74=g at *
   refine .inr ⟨g,_,hgc,rfl,⟨rfl,rfl,rfl⟩,rfl,?_,fun q v hq=>?_⟩
   ·rw [Array.size_append,hzs,List.size_toArray,List.length_append,hol,hnl]
    have:(i+1)*6≤g*6:=Nat.mul_le_mul_right _ hgc
    omega
   ·have hql:q<(i+1)*6:=by
     have h1:=(List.getElem?_eq_some_iff.1 hq).1
     have h2:=z4A (sz:=6) hol hnl hin
     omega
    rw [zaO hol hnl hin] at hq
    rw [Array.getElem?_append_left (by rw [List.size_toArray,List.length_append,hol,hnl];omega),List.getElem?_toArray]
    by_cases h1:q<i*6
    ·rw [if_pos h1] at hq
     rw [List.getElem?_append_left (by omega)];exact hq
    ·rw [if_neg h1,if_pos hql] at hq
     rw [List.getElem?_append_right (by omega),hol];exact hq
  ·have hi:i<n:=by omega
   have hm2:(i+1)*6≤n*6:=Nat.mul_le_mul_right _ hi
   have hdl:(old.drop (i*6)).length=n*6 - i*6:=by rw [List.length_drop,hol]
   refine (zdL b off n c i vb voff vc old new w hi hnc (by omega) hbig hol hnl hcs hvs ho1 hn1).mono ?_
   rintro ex w' ⟨rfl,rfl⟩
   generalize grownCap w (n+1) c 74=g at *
   have hgm:(n+1)*6≤g*6:=Nat.mul_le_mul_right _ hgc
   have hRs:((old.take (i*6)).toArray++Builtin.zeroCells opnZ.cells (n+1 - i)++Builtin.zeroCells opnZ.cells (g - (n+1))).size=g*6:=by
    rw [Array.size_append,Array.size_append,hzs,hzs,List.size_toArray,List.length_take,Nat.min_eq_left (by omega)]
    omega
   have hRq:∀ q,q<i*6→((old.take (i*6)).toArray++Builtin.zeroCells opnZ.cells (n+1 - i)++Builtin.zeroCells opnZ.cells (g - (n+1)))[q]? = old[q]? :=fun q hq=>by
    rw [Array.append_assoc,Array.getElem?_append_left (by rw [List.size_toArray,List.length_take,Nat.min_eq_left (by omega)];exact hq),List.getElem?_toArray,List.getElem?_take,if_pos hq]
   generalize (old.take (i*6)).toArray++Builtin.zeroCells opnZ.cells (n+1 - i)++Builtin.zeroCells opnZ.cells (g - (n+1))=R at *
   have hRl:R.toList.length=R.size:=Array.length_toList
   have hb1:(w.alloc (.cells R 74)).drew.heap[w.heap.size]? = some (.cells R 74 (0,0)):=heap_alloc_new w _
   have e1:=z1R (P:=Tryz.prog) (w.alloc (.cells R 74)).drew w.heap.size (i*6) R 74 new hb1 (by omega) hn1
   rw [e1]
   have hb2:=setRow_heap (w.alloc (.cells R 74)).drew w.heap.size R (R.toList.take (i*6)++new++R.toList.drop (i*6+new.length)).toArray 74 (0,0) hb1
   have hl1:(R.toList.take (i*6)++new++R.toList.drop (i*6+new.length)).length=g*6:=by
    simp only [List.length_append,List.length_take,List.length_drop,hRl,hRs]
    rw [Nat.min_eq_left (by omega)];omega
   have hp1:∀ q,(R.toList.take (i*6)++new++R.toList.drop (i*6+new.length))[q]? = if i*6≤q∧q<i*6+new.length then new[q - i*6]? else R[q]? :=fun q=>by
    rw [z5F (by omega),show R.toList[q]? = R[q]? from Array.getElem?_toList]
   generalize R.toList.take (i*6)++new++R.toList.drop (i*6+new.length)=r1 at *
   have e2:=z1R (P:=Tryz.prog) ((w.alloc (.cells R 74)).drew.setRow w.heap.size r1.toArray).drew w.heap.size ((i+1)*6) r1.toArray 74 (old.drop (i*6)) hb2 (by rw [List.size_toArray];omega) (fun v hv=>ho1 v (List.mem_of_mem_drop hv))
   rw [e2]
   have hl2:(r1.take ((i+1)*6)++old.drop (i*6)++r1.drop ((i+1)*6+(old.drop (i*6)).length)).length=g*6:=by
    simp only [List.length_append,List.length_take,List.length_drop,hl1,hol]
    rw [Nat.min_eq_left (by omega)];omega
   refine .inr ⟨g,(r1.take ((i+1)*6)++old.drop (i*6)++r1.drop ((i+1)*6+(old.drop (i*6)).length)).toArray,hgc,rfl,⟨rfl,rfl,rfl⟩,?_,?_,fun q v hq=>?_⟩
   ·apply Array.ext_getElem?
    intro k
    by_cases hk:k=w.heap.size
    ·subst hk
     rw [Array.getElem?_push_size]
     exact setRow_heap _ _ _ _ _ _ hb2
    ·rw [setRow_other _ _ _ _ hk]
     show ((w.alloc (.cells R 74)).drew.setRow w.heap.size r1.toArray).heap[k]? = _
     rw [setRow_other _ _ _ _ hk]
     show (w.heap.push _)[k]? = _
     rw [Array.getElem?_push,Array.getElem?_push,if_neg hk,if_neg hk]
   ·rw [List.size_toArray,hl2];exact Nat.le_refl _
   ·have hql:q<(n+1)*6:=by
     have h1:=(List.getElem?_eq_some_iff.1 hq).1
     have h2:=z4A (sz:=6) hol hnl hin
     omega
    rw [zaO hol hnl hin] at hq
    rw [List.getElem?_toArray,z5F (by omega),hp1]
    by_cases h1:q<i*6
    ·rw [if_pos h1] at hq
     rw [if_neg (by omega),if_neg (by omega),hRq q h1];exact hq
    ·rw [if_neg h1] at hq
     by_cases h2:q<(i+1)*6
     ·rw [if_pos h2] at hq
      rw [if_neg (by omega),if_pos (by omega)];exact hq
     ·rw [if_neg h2] at hq
      rw [if_pos (by omega),List.getElem?_drop,show i*6+(q - (i+1)*6)=q - 6 by omega];exact hq
theorem zkX:zqm Tryz.prog 108 74 6:=by
 intro base vb voff vc new w cv tv hnl hv hvn hn1
 have hvs:∀ j v,new[j]? = some v→w.cell? ⟨vb,voff+j,none⟩=some v:=fun j v hj=>by rw [cell_of_row _ _ _ _ _ _ hv];exact hvn j v hj
 have hzs:∀ k,(Builtin.zeroCells opnZ.cells k).size=k*6:=fun k=>by rw [size_zeroCells,zhX]
 have hgc:=grownCap_ge w 1 0 74
 refine (zdK base vb voff vc new w hnl hvs hn1).mono ?_
 rintro ex w' ⟨rfl,rfl⟩
 generalize grownCap w 1 0 74=g at *
 refine ⟨g,_,hgc,rfl,⟨rfl,rfl,rfl⟩,rfl,?_,fun q v hq=>?_⟩
 ·rw [Array.size_append,hzs,List.size_toArray,hnl]
  omega
 ·have h1:=(List.getElem?_eq_some_iff.1 hq).1
  rw [Array.getElem?_append_left (by rw [List.size_toArray];exact h1),List.getElem?_toArray];exact hq
end
end Go.Proofs.YtdpipdniklognaaGreat
