/- The program's ChestCovers returns true for all numbers without an exception and without changing its arguments: a part of the proof. -/
import Derived.Test.YtbieflpgjmgaiaaGreatVr
set_option linter.all false
/- Walks: the reference's matching. -/
set_option maxRecDepth 100000
namespace Go.Proofs.YtbieflpgjmgaiaaGreat
open Kuhn
variable {r : Rm}
end Go.Proofs.YtbieflpgjmgaiaaGreat
/- Walks: the reference's openings without some; whether some may be false. -/
set_option maxRecDepth 100000
namespace Go.Proofs.YtbieflpgjmgaiaaGreat
open Kuhn
variable {r : Rm}
def lessI (c : List Opn) (s : Int) : List Opn := (c.filter fun o => !(o.source == s)).map cpO
theorem cpO_ok {o : Opn} (h : OkO o) : OkO (cpO o) := ⟨h.source, h.register, h.day, h.lawful, h.inn, h.out, h.com, h.known, h.until_⟩
theorem Vc.less {c : List Opn} (h : Vc c) (s : Int) : Vc (lessI c s) := by
  refine ⟨fun o ho => ?_, ?_⟩
  · obtain ⟨x, hx, rfl⟩ := List.mem_map.1 ho
    exact cpO_ok (h.ok x (List.mem_filter.1 hx).1)
  · unfold lessI
    rw [List.pairwise_map]
    exact h.rise.filter _
theorem lessI_len {c : List Opn} {s : Int} : (lessI c s).length ≤ c.length := by
  unfold lessI
  rw [List.length_map]
  exact List.length_filter_le _ _
theorem Szs.of {c : List Opn} (hn : c.length < 1000000) (h : ∀ o, o ∈ c → Sz o) : Szs c := ⟨hn, fun k hk => h _ (getD_mem hk)⟩
theorem Szs.less {c : List Opn} (h : Szs c) (s : Int) : Szs (lessI c s) := Szs.of (Nat.lt_of_le_of_lt lessI_len h.len) fun o ho => by
  obtain ⟨x, hx, rfl⟩ := List.mem_map.1 ho
  exact cpO_sz (h.mem (List.mem_filter.1 hx).1)
end Go.Proofs.YtbieflpgjmgaiaaGreat
/- Walks: the reference's answers. -/
set_option maxRecDepth 100000
namespace Go.Proofs.YtbieflpgjmgaiaaGreat
open Kuhn
variable {r : Rm}
end Go.Proofs.YtbieflpgjmgaiaaGreat
/- Walks: the reference's True, Inside, Sealed: the same answers. -/
set_option maxRecDepth 100000
namespace Go.Proofs.YtbieflpgjmgaiaaGreat
open Kuhn
variable {r : Rm}
end Go.Proofs.YtbieflpgjmgaiaaGreat
/- Walks: the law of what is true, and lay in the chest, and was sealed. -/
set_option maxRecDepth 100000
namespace Go.Proofs.YtbieflpgjmgaiaaGreat
open Kuhn
variable {r : Rm}
theorem VP.hook {E : Env} {f : FuncId} (hk : hookL E f [] = true) : VP E f [] (bv true) :=
  ⟨rfl, fun S Z j vs hS hv hl => by
    cases hv
    exact ⟨1, .bool true, S, fun m hm => by
      obtain ⟨k, rfl, _⟩ := le_succ_ex hm
      show bf (hookL E f []) _ _ = _
      rw [hk]; rfl, bv true, [], Z, j, hS, .p (.bool true), Ex.refl _ _ _, hl, Stay.refl _ _, rfl, rfl⟩⟩
end Go.Proofs.YtbieflpgjmgaiaaGreat
