/- The program's LeafNth returns true for all numbers that describe a book and all lists of Ids, without an exception and without changing its arguments: a part of the proof. -/
import Derived.Test.YtdpipdniklognaaGreatProg
import Derived.Test.YtdpipdniklognaaGreatChecked
import Derived.Lib.AppendZerosOnto
import Derived.Laws.NewBlocks
import Derived.LoopN
import Derived.Test.YtdpipdniklognaaGreatVf
import Derived.WalkKit
set_option linter.all false
/- The machine's comparison of neighbours. -/
set_option maxRecDepth 100000
namespace Go.Proofs.YtdpipdniklognaaGreat
section
open Go.RowKit
variable {P:Program}
def z9p (a b:Int):Int:=if a<b then -1 else if b<a then 1 else 0
theorem zcD (a b:Int) (w:World):Calls Tryz.prog 133 #[.int .i64 a,.int .i64 b] w fun e w'=>e = .returned (.int .i64 (z9p a b))∧w'=w:=by
 go_enter Tryz.func133,Tryz.ntmps133
 go_wp2
 ·rename_i h
  go_ret
  unfold z9p;rw [if_pos h];exact ⟨rfl,rfl⟩
 ·rename_i h1 _ _ h2
  go_ret
  unfold z9p;rw [if_neg (by omega),if_pos h2];exact ⟨rfl,rfl⟩
 ·go_ret
  unfold z9p;rw [if_neg (by omega),if_neg (by omega)];exact ⟨rfl,rfl⟩
def orZ (a b:Int):Int:=if a=0 then b else a
set_option maxHeartbeats 1000000 in
theorem zqB (a b:Int) (blk:Nat) (W:World) (row:Array Value) (ty:TypeId) (hrow:W.heap[blk]? = some (.cells row ty (0,0))) (h0:row[0]? = some (.int .i64 a)) (h1:row[1]? = some (.int .i64 b)):Calls Tryz.prog 132 #[.slice (some ⟨blk,0,none⟩) 2 2] W fun e w'=>e = .returned (.int .i64 (orZ a b))∧w'=W:=by
 have c0:W.cell? ⟨blk,0,none⟩=some (.int .i64 a):=by rw [cell_of_row _ _ _ _ _ _ hrow];exact h0
 have c1:W.cell? ⟨blk,1,none⟩=some (.int .i64 b):=by rw [cell_of_row _ _ _ _ _ _ hrow];exact h1
 go_enter Tryz.func132,Tryz.ntmps132
 go_wp2
 refine wp_loop_rounds 3 ?_
 rw [rounds_succ]
 go_wp2
 ·rename_i h
  go_ret
  unfold orZ
  rw [if_neg (by simpa using h)]
  exact ⟨rfl,rfl⟩
 rename_i h
 rw [rounds_succ]
 go_wp2
 ·go_ret
  unfold orZ
  rw [if_pos (by simpa using h)]
  exact ⟨rfl,rfl⟩
 rename_i h2
 rw [rounds_succ]
 go_wp2
 go_ret
 unfold orZ
 rw [if_pos (by simpa using h)]
 have:b=0:=by simpa using h2
 rw [this]
 exact ⟨rfl,rfl⟩
def zmf (x y:Int×Int):Int:=orZ (z9p x.1 y.1) (z9p x.2 y.2)
set_option maxHeartbeats 1000000 in
theorem zgm (a b c d:Int) (W:World):Calls Tryz.prog 79 #[.agg #[.int .i64 a,.int .i64 b],.agg #[.int .i64 c,.int .i64 d]] W fun e w'=>e = .returned (.int .i64 (zmf (a,b) (c,d))) ∧
  w'=((((W.alloc (.cells #[.int .i64 a,.int .i64 b] 58)).alloc (.cells #[.int .i64 c,.int .i64 d] 58)).drew).alloc (.cells #[.int .i64 (z9p a c),.int .i64 (z9p b d)] 3)):=by
 go_enter Tryz.func79,Tryz.ntmps79
 go_wp2
 rename_i K hK
 have f0:((W.alloc (.cells #[.int .i64 a,.int .i64 b] 58)).alloc (.cells #[.int .i64 c,.int .i64 d] 58)).drew.heap[W.heap.size]? = some (.cells #[.int .i64 a,.int .i64 b] 58 (0,0)):=by
  show ((W.heap.push _).push _)[W.heap.size]? = _
  rw [Array.getElem?_push,if_neg (by simp),Array.getElem?_push,if_pos rfl]
 have f1:((W.alloc (.cells #[.int .i64 a,.int .i64 b] 58)).alloc (.cells #[.int .i64 c,.int .i64 d] 58)).drew.heap[W.heap.size+1]? = some (.cells #[.int .i64 c,.int .i64 d] 58 (0,0)):=by
  show ((W.heap.push _).push _)[W.heap.size+1]? = _
  rw [Array.getElem?_push,if_pos (by simp)]
 have fs:((W.alloc (.cells #[.int .i64 a,.int .i64 b] 58)).alloc (.cells #[.int .i64 c,.int .i64 d] 58)).drew.heap.size=W.heap.size+2:=by
  show ((W.heap.push _).push _).size=_
  simp
 refine zcU (fun V=>V=((W.alloc (.cells #[.int .i64 a,.int .i64 b] 58)).alloc (.cells #[.int .i64 c,.int .i64 d] 58)).drew) [.read 0,.read 1,.read 2,.read 3,.read 4,.read 5,.read 6,.read 7,.read 8,.read 9] [10,11,12] (by kernel_rfl) (by kernel_rfl) (by kernel_rfl) rfl ?_
 generalize hW2:((W.alloc (.cells #[.int .i64 a,.int .i64 b] 58)).alloc (.cells #[.int .i64 c,.int .i64 d] 58)).drew=W2 at *
 have p0:W2.cell? ⟨W.heap.size,0,none⟩=some (.int .i64 a):=by rw [cell_of_row _ _ _ _ _ _ f0];rfl
 have p1:W2.cell? ⟨W.heap.size,1,none⟩=some (.int .i64 b):=by rw [cell_of_row _ _ _ _ _ _ f0];rfl
 have p2:W2.cell? ⟨W.heap.size+1,0,none⟩=some (.int .i64 c):=by rw [cell_of_row _ _ _ _ _ _ f1];rfl
 have p3:W2.cell? ⟨W.heap.size+1,1,none⟩=some (.int .i64 d):=by rw [cell_of_row _ _ _ _ _ _ f1];rfl
 clear f0 f1
 refine z1h (v:=?_) (by simp only [List.getElem?_toArray,List.getElem?_cons_succ,List.getElem?_cons_zero];rfl) (by rfl) ?_ ?_
 rotate_left
 ·intro V hV
  subst hV
  go_simp
  with_reducible rfl
 try simp only [Act.put,List.setIfInBounds_toArray,List.set_cons_zero,List.set_cons_succ]
 refine z1h (v:=?_) (by simp only [List.getElem?_toArray,List.getElem?_cons_succ,List.getElem?_cons_zero];rfl) (by rfl) ?_ ?_
 rotate_left
 ·intro V hV
  subst hV
  go_simp
  with_reducible rfl
 try simp only [Act.put,List.setIfInBounds_toArray,List.set_cons_zero,List.set_cons_succ]
 refine z1h (v:=?_) (by simp only [List.getElem?_toArray,List.getElem?_cons_succ,List.getElem?_cons_zero];rfl) (by rfl) ?_ ?_
 rotate_left
 ·intro V hV
  subst hV
  go_simp
  with_reducible rfl
 try simp only [Act.put,List.setIfInBounds_toArray,List.set_cons_zero,List.set_cons_succ]
 refine z1h (v:=?_) (by simp only [List.getElem?_toArray,List.getElem?_cons_succ,List.getElem?_cons_zero];rfl) (by rfl) ?_ ?_
 rotate_left
 ·intro V hV
  subst hV
  go_simp
  with_reducible rfl
 try simp only [Act.put,List.setIfInBounds_toArray,List.set_cons_zero,List.set_cons_succ]
 refine z9s (v:=.int .i64 (z9p a c)) (f:=133) (args:=#[.int .i64 a,.int .i64 c]) (by simp only [List.getElem?_toArray,List.getElem?_cons_succ,List.getElem?_cons_zero];rfl) (by rfl) (fun V hV=>by subst hV;go_simp) (fun V hV=>zcD _ _ _) ?_
 try simp only [Act.put,List.setIfInBounds_toArray,List.set_cons_zero,List.set_cons_succ]
 refine z1h (v:=?_) (by simp only [List.getElem?_toArray,List.getElem?_cons_succ,List.getElem?_cons_zero];rfl) (by rfl) ?_ ?_
 rotate_left
 ·intro V hV
  subst hV
  go_simp
  with_reducible rfl
 try simp only [Act.put,List.setIfInBounds_toArray,List.set_cons_zero,List.set_cons_succ]
 refine z1h (v:=?_) (by simp only [List.getElem?_toArray,List.getElem?_cons_succ,List.getElem?_cons_zero];rfl) (by rfl) ?_ ?_
 rotate_left
 ·intro V hV
  subst hV
  go_simp
  with_reducible rfl
 try simp only [Act.put,List.setIfInBounds_toArray,List.set_cons_zero,List.set_cons_succ]
 refine z1h (v:=?_) (by simp only [List.getElem?_toArray,List.getElem?_cons_succ,List.getElem?_cons_zero];rfl) (by rfl) ?_ ?_
 rotate_left
 ·intro V hV
  subst hV
  go_simp
  with_reducible rfl
 try simp only [Act.put,List.setIfInBounds_toArray,List.set_cons_zero,List.set_cons_succ]
 refine z1h (v:=?_) (by simp only [List.getElem?_toArray,List.getElem?_cons_succ,List.getElem?_cons_zero];rfl) (by rfl) ?_ ?_
 rotate_left
 ·intro V hV
  subst hV
  go_simp
  with_reducible rfl
 try simp only [Act.put,List.setIfInBounds_toArray,List.set_cons_zero,List.set_cons_succ]
 refine z9s (v:=.int .i64 (z9p b d)) (f:=133) (args:=#[.int .i64 b,.int .i64 d]) (by simp only [List.getElem?_toArray,List.getElem?_cons_succ,List.getElem?_cons_zero];rfl) (by rfl) (fun V hV=>by subst hV;go_simp) (fun V hV=>zcD _ _ _) ?_
 try simp only [Act.put,List.setIfInBounds_toArray,List.set_cons_zero,List.set_cons_succ]
 refine zgO (z4R (v:=.slice (some ⟨W2.heap.size,0,none⟩) 2 2) (w1:=W2.alloc (.cells #[.int .i64 (z9p a c),.int .i64 (z9p b d)] 3)) (by simp only [List.getElem?_toArray,List.getElem?_cons_succ,List.getElem?_cons_zero];rfl) (by rfl) (by go_simp) ?_)
 try simp only [Act.put,List.setIfInBounds_toArray,List.set_cons_zero,List.set_cons_succ]
 have hrow:(W2.alloc (.cells #[.int .i64 (z9p a c),.int .i64 (z9p b d)] 3)).heap[W2.heap.size]? = some (.cells #[.int .i64 (z9p a c),.int .i64 (z9p b d)] 3 (0,0)):=heap_alloc_new _ _
 refine za5 (f:=132) (args:=#[.slice (some ⟨W2.heap.size,0,none⟩) 2 2]) (by simp only [List.getElem?_toArray,List.getElem?_cons_succ,List.getElem?_cons_zero];rfl) (by rfl) (by go_simp) ((zqB (z9p a c) (z9p b d) _ _ _ _ hrow rfl rfl).mono ?_)
 rintro e w' ⟨rfl,rfl⟩
 refine ⟨_,rfl,?_⟩
 try simp only [Act.put,List.setIfInBounds_toArray,List.set_cons_zero,List.set_cons_succ]
 refine z4R (v:=.int .i64 (orZ (z9p a c) (z9p b d))) (by simp only [List.getElem?_toArray,List.getElem?_cons_succ,List.getElem?_cons_zero];rfl) (by rfl) (by go_simp;with_reducible rfl) (zbl ?_)
 try simp only [Act.put,List.setIfInBounds_toArray,List.set_cons_zero,List.set_cons_succ]
 refine hK _ _ ?_
 go_wp2
 go_ret
 exact ⟨rfl,by rw [hW2]⟩
end
end Go.Proofs.YtdpipdniklognaaGreat
