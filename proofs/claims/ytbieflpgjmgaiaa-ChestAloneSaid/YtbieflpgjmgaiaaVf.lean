/- The program's ChestAlone returns true for all numbers and days without an exception and without changing its arguments: a part of the proof. -/
import Derived.Shelf.Sort.Plain
import Derived.Shelf.Slices.In.SortNone
import Derived.Test.YtbieflpgjmgaiaaChecked
import Derived.Test.YtbieflpgjmgaiaaProg
import Derived.Test.YtbieflpgjmgaiaaVb
set_option linter.all false
/- What the library's sort of ints stands on, at this program. -/
namespace Go.Proofs.Ytbieflpgjmgaiaa
open Go.Shelf
def sort_ren : Go.Shelf.Ren := ⟨fun | 189 => 56 | 125 => 65 | 257 => 69 | 128 => 83 | 129 => 84 | 294 => 85 | 295 => 86 | 296 => 87 | 297 => 88 | 298 => 89 | 299 => 90 | 216 => 91 | 300 => 92 | 301 => 93 | 328 => 99 | 329 => 95 | 330 => 96 | 331 => 100 | 332 => 101 | 215 => 66 | 343 => 103 | n => n, fun | 28 => 35 | 3 => 3 | 46 => 97 | 0 => 0 | 51 => 113 | 53 => 115 | 4 => 4 | 183 => 107 | 182 => 106 | 131 => 92 | 5 => 5 | 9 => 9 | 218 => 122 | 222 => 126 | 228 => 130 | 229 => 131 | n => n, fun | n => n⟩
theorem sort_lay : Go.Proofs.Lays.n189 Try.prog sort_ren := {
  mixed := by kernel_rfl
  f125 := Try.func65.trans (congrArg some (by kernel_rfl))
  f128 := Try.func83.trans (congrArg some (by kernel_rfl))
  f129 := Try.func84.trans (congrArg some (by kernel_rfl))
  f189 := Try.func56.trans (congrArg some (by kernel_rfl))
  f215 := Try.func66.trans (congrArg some (by kernel_rfl))
  f216 := Try.func91.trans (congrArg some (by kernel_rfl))
  f257 := Try.func69.trans (congrArg some (by kernel_rfl))
  f294 := Try.func85.trans (congrArg some (by kernel_rfl))
  f295 := Try.func86.trans (congrArg some (by kernel_rfl))
  f296 := Try.func87.trans (congrArg some (by kernel_rfl))
  f297 := Try.func88.trans (congrArg some (by kernel_rfl))
  f298 := Try.func89.trans (congrArg some (by kernel_rfl))
  f299 := Try.func90.trans (congrArg some (by kernel_rfl))
  f300 := Try.func92.trans (congrArg some (by kernel_rfl))
  f301 := Try.func93.trans (congrArg some (by kernel_rfl))
  f328 := Try.func99.trans (congrArg some (by kernel_rfl))
  f329 := Try.func95.trans (congrArg some (by kernel_rfl))
  f330 := Try.func96.trans (congrArg some (by kernel_rfl))
  f331 := Try.func100.trans (congrArg some (by kernel_rfl))
  f332 := Try.func101.trans (congrArg some (by kernel_rfl))
  f343 := Try.func103.trans (congrArg some (by kernel_rfl))
  t0 := Try.underlying0
  a0 := Try.isAgg0
  z0 := Try.sizeOf0
  v0 := Try.zeroValue0
  t3 := Try.underlying3
  a3 := Try.isAgg3
  z3 := Try.sizeOf3
  v3 := Try.zeroValue3
  t4 := Try.underlying4
  a4 := Try.isAgg4
  z4 := Try.sizeOf4
  v4 := Try.zeroValue4
  t5 := Try.underlying5
  a5 := Try.isAgg5
  z5 := Try.sizeOf5
  v5 := Try.zeroValue5
  t9 := Try.underlying9
  a9 := Try.isAgg9
  z9 := Try.sizeOf9
  v9 := Try.zeroValue9
  t28 := Try.underlying35
  a28 := Try.isAgg35
  z28 := Try.sizeOf35
  v28 := Try.zeroValue35
  t46 := Try.underlying97
  a46 := Try.isAgg97
  z46 := Try.sizeOf97
  v46 := Try.zeroValue97
  t51 := Try.underlying113
  a51 := Try.isAgg113
  z51 := Try.sizeOf113
  v51 := Try.zeroValue113
  t53 := Try.underlying115
  a53 := Try.isAgg115
  z53 := Try.sizeOf115
  v53 := Try.zeroValue115
  t131 := Try.underlying92
  a131 := Try.isAgg92
  z131 := Try.sizeOf92
  v131 := Try.zeroValue92
  t182 := Try.underlying106
  a182 := Try.isAgg106
  z182 := Try.sizeOf106
  v182 := Try.zeroValue106
  t183 := Try.underlying107
  a183 := Try.isAgg107
  z183 := Try.sizeOf107
  v183 := Try.zeroValue107
  t218 := Try.underlying122
  a218 := Try.isAgg122
  z218 := Try.sizeOf122
  v218 := Try.zeroValue122
  t222 := Try.underlying126
  a222 := Try.isAgg126
  z222 := Try.sizeOf126
  v222 := Try.zeroValue126
  t228 := Try.underlying130
  a228 := Try.isAgg130
  z228 := Try.sizeOf130
  v228 := Try.zeroValue130
  t229 := Try.underlying131
  a229 := Try.isAgg131
  z229 := Try.sizeOf131
  v229 := Try.zeroValue131 }
end Go.Proofs.Ytbieflpgjmgaiaa
/- The library's sort of ints, in the evaluator's words. -/
namespace Go.Proofs.Ytbieflpgjmgaiaa
open Go.Sort Go.Shelf
theorem sort_none (p : Option Addr) (cap : Nat) (w : World) : Calls Try.prog 56 #[.slice p 0 cap] w fun e w' => e = .returned (.tuple #[]) ∧ w' = w := Any.slices_Sort_int_none sort_lay p cap w
theorem sort_all : SortOK Try.prog 56 := by
  intro blk off cap zs w c ty hlen hc hoff hz
  have hlt : blk < w.heap.size := (Array.getElem?_eq_some_iff.1 hc).1
  have hget : ∀ j, j < zs.length → zs.toArray[j]! = zs.getD j 0 := fun j hj => by
    rw [getElem!_pos _ _ (by simpa using hj), List.getD_eq_getElem?_getD, List.getElem?_eq_getElem hj]; simp
  have hH : Holds (Value.int .i64) w blk off zs.toArray := fun j hj => by
    have hj : j < zs.length := by simpa using hj
    refine ⟨?_, ?_⟩
    · unfold World.cell?
      simp only [hc]
      rw [if_neg (by simp), hz j hj, hget j hj]
    · unfold World.frozen?
      simp only [hc]
      simp
  refine (Any.slices_Sort_int sort_lay blk off cap zs w hH hlt hlen).mono ?_
  rintro e w' ⟨rfl, n, os, rfl⟩
  have hsl : (zs.mergeSort fun x y => decide (x ≤ y)).length = zs.length := List.length_mergeSort _
  have hm : (mapBlock (Sort.ahead w n) blk (putCells (Value.int .i64) off (zs.mergeSort fun x y => decide (x ≤ y)).toArray)).heap = w.heap.modify blk (onCells (putCells (Value.int .i64) off (zs.mergeSort fun x y => decide (x ≤ y)).toArray)) := rfl
  have hsz : (grow (putRow (Value.int .i64) (Sort.ahead w n) blk off (zs.mergeSort fun x y => decide (x ≤ y)).toArray) os).heap.size = w.heap.size + os.size := by
    show (_ ++ os).size = _
    rw [Array.size_append]
    show (w.heap.modify blk _).size + os.size = _
    rw [Array.size_modify]
  have hat : ∀ k, k < w.heap.size → (grow (putRow (Value.int .i64) (Sort.ahead w n) blk off (zs.mergeSort fun x y => decide (x ≤ y)).toArray) os).heap[k]? = (w.heap.modify blk (onCells (putCells (Value.int .i64) off (zs.mergeSort fun x y => decide (x ≤ y)).toArray)))[k]? := fun k hk => by
    show (_ ++ os)[k]? = _
    exact Array.getElem?_append_left (by show k < (w.heap.modify blk _).size; rw [Array.size_modify]; exact hk)
  refine ⟨rfl, ⟨rfl, rfl, rfl⟩, by rw [hsz]; omega, fun k hk hne => ?_, ?_⟩
  · rw [hat k hk, Array.getElem?_modify, if_neg (fun e => hne e.symm)]
  · refine ⟨putCells (Value.int .i64) off (zs.mergeSort fun x y => decide (x ≤ y)).toArray c, ?_, by unfold putCells; rw [Array.size_mapIdx], fun i hi => ?_⟩
    · rw [hat blk hlt, Array.getElem?_modify, if_pos rfl, hc]; rfl
    · unfold putCells
      rw [Array.getElem?_mapIdx, Array.getElem?_eq_getElem hi]
      simp only [Option.map_some, List.size_toArray, hsl]
      split
      · rename_i h
        have h2 : i - off < (zs.mergeSort fun x y => decide (x ≤ y)).length := by rw [hsl]; omega
        rw [getElem!_pos _ _ (by simpa using h2)]
        unfold sortZ
        rw [List.getD_eq_getElem?_getD, List.getElem?_eq_getElem h2]; rfl
      · rfl
end Go.Proofs.Ytbieflpgjmgaiaa
