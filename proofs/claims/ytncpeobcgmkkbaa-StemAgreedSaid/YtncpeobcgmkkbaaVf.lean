/- The program's StemAgreed returns true for every stem and every list of Ids, valid or not, without an exception and without changing its arguments: a part of the proof. -/
import Derived.Shelf.Sort.Plain
import Derived.Shelf.Slices.In.SortNone
import Derived.Test.YtncpeobcgmkkbaaChecked
import Derived.Test.YtncpeobcgmkkbaaProg
import Derived.Test.YtncpeobcgmkkbaaVb
set_option linter.all false
/- What the library's sort of ints stands on, at this program. -/
namespace Go.Proofs.Ytncpeobcgmkkbaa
open Go.Shelf
def sort_ren : Go.Shelf.Ren := ⟨fun | 189 => 61 | 125 => 76 | 257 => 75 | 128 => 93 | 129 => 94 | 294 => 84 | 295 => 85 | 296 => 86 | 297 => 87 | 298 => 88 | 299 => 89 | 216 => 90 | 300 => 91 | 301 => 92 | 328 => 95 | 329 => 96 | 330 => 97 | 331 => 98 | 332 => 99 | 215 => 66 | 343 => 100 | n => n, fun | 28 => 28 | 3 => 3 | 46 => 104 | 0 => 0 | 51 => 121 | 53 => 123 | 4 => 4 | 183 => 114 | 182 => 113 | 131 => 118 | 5 => 5 | 9 => 9 | 218 => 124 | 222 => 128 | 228 => 130 | 229 => 131 | n => n, fun | n => n⟩
theorem sort_lay : Go.Proofs.Lays.n189 Try.prog sort_ren := {
  mixed := by kernel_rfl
  f125 := Try.func76.trans (congrArg some (by kernel_rfl))
  f128 := Try.func93.trans (congrArg some (by kernel_rfl))
  f129 := Try.func94.trans (congrArg some (by kernel_rfl))
  f189 := Try.func61.trans (congrArg some (by kernel_rfl))
  f215 := Try.func66.trans (congrArg some (by kernel_rfl))
  f216 := Try.func90.trans (congrArg some (by kernel_rfl))
  f257 := Try.func75.trans (congrArg some (by kernel_rfl))
  f294 := Try.func84.trans (congrArg some (by kernel_rfl))
  f295 := Try.func85.trans (congrArg some (by kernel_rfl))
  f296 := Try.func86.trans (congrArg some (by kernel_rfl))
  f297 := Try.func87.trans (congrArg some (by kernel_rfl))
  f298 := Try.func88.trans (congrArg some (by kernel_rfl))
  f299 := Try.func89.trans (congrArg some (by kernel_rfl))
  f300 := Try.func91.trans (congrArg some (by kernel_rfl))
  f301 := Try.func92.trans (congrArg some (by kernel_rfl))
  f328 := Try.func95.trans (congrArg some (by kernel_rfl))
  f329 := Try.func96.trans (congrArg some (by kernel_rfl))
  f330 := Try.func97.trans (congrArg some (by kernel_rfl))
  f331 := Try.func98.trans (congrArg some (by kernel_rfl))
  f332 := Try.func99.trans (congrArg some (by kernel_rfl))
  f343 := Try.func100.trans (congrArg some (by kernel_rfl))
  t0 := Try.underlying0
  a0 := Try.isAgg0
  z0 := Try.sizeOf0
  v0 := Try.zeroValue0
  t3 := Try.underlying3
  a3 := Try.isAgg3
  z3 := Try.sizeOf3
  v3 := Try.zeroValue3
  t4 := Try.underlying4
  a4 := Try.isAgg4
  z4 := Try.sizeOf4
  v4 := Try.zeroValue4
  t5 := Try.underlying5
  a5 := Try.isAgg5
  z5 := Try.sizeOf5
  v5 := Try.zeroValue5
  t9 := Try.underlying9
  a9 := Try.isAgg9
  z9 := Try.sizeOf9
  v9 := Try.zeroValue9
  t28 := Try.underlying28
  a28 := Try.isAgg28
  z28 := Try.sizeOf28
  v28 := Try.zeroValue28
  t46 := Try.underlying104
  a46 := Try.isAgg104
  z46 := Try.sizeOf104
  v46 := Try.zeroValue104
  t51 := Try.underlying121
  a51 := Try.isAgg121
  z51 := Try.sizeOf121
  v51 := Try.zeroValue121
  t53 := Try.underlying123
  a53 := Try.isAgg123
  z53 := Try.sizeOf123
  v53 := Try.zeroValue123
  t131 := Try.underlying118
  a131 := Try.isAgg118
  z131 := Try.sizeOf118
  v131 := Try.zeroValue118
  t182 := Try.underlying113
  a182 := Try.isAgg113
  z182 := Try.sizeOf113
  v182 := Try.zeroValue113
  t183 := Try.underlying114
  a183 := Try.isAgg114
  z183 := Try.sizeOf114
  v183 := Try.zeroValue114
  t218 := Try.underlying124
  a218 := Try.isAgg124
  z218 := Try.sizeOf124
  v218 := Try.zeroValue124
  t222 := Try.underlying128
  a222 := Try.isAgg128
  z222 := Try.sizeOf128
  v222 := Try.zeroValue128
  t228 := Try.underlying130
  a228 := Try.isAgg130
  z228 := Try.sizeOf130
  v228 := Try.zeroValue130
  t229 := Try.underlying131
  a229 := Try.isAgg131
  z229 := Try.sizeOf131
  v229 := Try.zeroValue131 }
end Go.Proofs.Ytncpeobcgmkkbaa
/- The library's sort of ints, in the evaluator's words. -/
namespace Go.Proofs.Ytncpeobcgmkkbaa
open Go.Sort Go.Shelf
theorem sort_none (p : Option Addr) (cap : Nat) (w : World) : Calls Try.prog 61 #[.slice p 0 cap] w fun e w' => e = .returned (.tuple #[]) ∧ w' = w := Any.slices_Sort_int_none sort_lay p cap w
theorem sort_all : SortOK Try.prog 61 := by
  intro blk off cap zs w c ty hlen hc hoff hz
  have hlt : blk < w.heap.size := (Array.getElem?_eq_some_iff.1 hc).1
  have hget : ∀ j, j < zs.length → zs.toArray[j]! = zs.getD j 0 := fun j hj => by
    rw [getElem!_pos _ _ (by simpa using hj), List.getD_eq_getElem?_getD, List.getElem?_eq_getElem hj]; simp
  have hH : Holds (Value.int .i64) w blk off zs.toArray := fun j hj => by
    have hj : j < zs.length := by simpa using hj
    refine ⟨?_, ?_⟩
    · unfold World.cell?
      simp only [hc]
      rw [if_neg (by simp), hz j hj, hget j hj]
    · unfold World.frozen?
      simp only [hc]
      simp
  refine (Any.slices_Sort_int sort_lay blk off cap zs w hH hlt hlen).mono ?_
  rintro e w' ⟨rfl, n, os, rfl⟩
  have hsl : (zs.mergeSort fun x y => decide (x ≤ y)).length = zs.length := List.length_mergeSort _
  have hm : (mapBlock (Sort.ahead w n) blk (putCells (Value.int .i64) off (zs.mergeSort fun x y => decide (x ≤ y)).toArray)).heap = w.heap.modify blk (onCells (putCells (Value.int .i64) off (zs.mergeSort fun x y => decide (x ≤ y)).toArray)) := rfl
  have hsz : (grow (putRow (Value.int .i64) (Sort.ahead w n) blk off (zs.mergeSort fun x y => decide (x ≤ y)).toArray) os).heap.size = w.heap.size + os.size := by
    show (_ ++ os).size = _
    rw [Array.size_append]
    show (w.heap.modify blk _).size + os.size = _
    rw [Array.size_modify]
  have hat : ∀ k, k < w.heap.size → (grow (putRow (Value.int .i64) (Sort.ahead w n) blk off (zs.mergeSort fun x y => decide (x ≤ y)).toArray) os).heap[k]? = (w.heap.modify blk (onCells (putCells (Value.int .i64) off (zs.mergeSort fun x y => decide (x ≤ y)).toArray)))[k]? := fun k hk => by
    show (_ ++ os)[k]? = _
    exact Array.getElem?_append_left (by show k < (w.heap.modify blk _).size; rw [Array.size_modify]; exact hk)
  refine ⟨rfl, ⟨rfl, rfl, rfl⟩, by rw [hsz]; omega, fun k hk hne => ?_, ?_⟩
  · rw [hat k hk, Array.getElem?_modify, if_neg (fun e => hne e.symm)]
  · refine ⟨putCells (Value.int .i64) off (zs.mergeSort fun x y => decide (x ≤ y)).toArray c, ?_, by unfold putCells; rw [Array.size_mapIdx], fun i hi => ?_⟩
    · rw [hat blk hlt, Array.getElem?_modify, if_pos rfl, hc]; rfl
    · unfold putCells
      rw [Array.getElem?_mapIdx, Array.getElem?_eq_getElem hi]
      simp only [Option.map_some, List.size_toArray, hsl]
      split
      · rename_i h
        have h2 : i - off < (zs.mergeSort fun x y => decide (x ≤ y)).length := by rw [hsl]; omega
        rw [getElem!_pos _ _ (by simpa using h2)]
        unfold sortZ
        rw [List.getD_eq_getElem?_getD, List.getElem?_eq_getElem h2]; rfl
      · rfl
end Go.Proofs.Ytncpeobcgmkkbaa
