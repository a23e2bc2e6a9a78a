/-
  No cell of these rows narrows 'for every input' (looked for: loops, veiled, ifaces, maps, wideKeys, modest, calm, conditions, laid).
  DERIVED. THE GIVEN ROWS OF THIS SEAT. 2 by the template 'for every input the law returns true; each argument reads behind the call as it read before'; 0 by the template 'total and deterministic' (their statements: YtncpeobcgmkkbaaTotals.lean).
  GIVEN WITH THE SEED: the statements are not yours to turn. If you find one false, say at which input.
  Laid BY PROGRAM, IN A SANDBOX (cutbox-rows.mjs): the forced cells as the released guide's own fill.sh prints them over the translation 3290e8619c8853a1… (all of the seat's roots in one cut). By AI agents, Wed Nov 11 2026. No macro, syntax, notation, axiom, sorry.
-/
import Derived.Test.YtncpeobcgmkkbaaChecked
import GoSem.Claim
import GoSem.ClaimJoined
import GoSem.ClaimMapViews
import Derived.JoinedTies
import Derived.KernelRfl
namespace Go.Proofs.Ytncpeobcgmkkbaa
/- THE CELL 'sum', in the pinned program and in every row, IS THE sha256 OF THE DUMP (.gsa) THAT YtncpeobcgmkkbaaProg.lean LOADS. Nothing in Lean hashes anything: it is a label: what it is worth is what the hold of that sum in a sandbox is worth. -/
noncomputable def Try.pinned : Pinned := { name := "ytncpeobcgmkkbaa", sum := "3290e8619c8853a1033e9cc292b9324c5b8beac97282b1054c6ff3cc234e4073", checked := Try.checked }
namespace Rows
def none {H : Type} : Left H := { results := [], args := [] }

/-- 'parviselaw04.StemSlips': WHATEVER THE INPUT: true; the input reads as it did. -/
def stemSlipsSpec : ChangeSpec := { name := "stemSlips", fn := fun _ => fun
  | [d1, d2] => { results := [.lit (.bool true)], args := [d1, d2] }
  | _ => none }
def stemSlipsRow : OpenClaim := { program := "ytncpeobcgmkkbaa", sum := "3290e8619c8853a1033e9cc292b9324c5b8beac97282b1054c6ff3cc234e4073", func := "parvise/parviselaw04.StemSlips", spec := "stemSlips", unfollowed := true, recurses := true, apart := false }
def StemSlipsSaid : Prop := stemSlipsRow.holds Try.pinned (OpenSpec.ofChange stemSlipsSpec)

/-- ITS FALSE NEIGHBOUR: 'it returns false'. Refute it at one input. -/
def stemSlipsWrong : ChangeSpec := { name := "stemSlips", fn := fun _ => fun
  | [d1, d2] => { results := [.lit (.bool false)], args := [d1, d2] }
  | _ => none }
def StemSlipsWrongFalsely : Prop := stemSlipsRow.holds Try.pinned (OpenSpec.ofChange stemSlipsWrong)

/-- 'parviselaw04.StemAgreed': WHATEVER THE INPUT: true; the input reads as it did. -/
def stemAgreedSpec : ChangeSpec := { name := "stemAgreed", fn := fun _ => fun
  | [d1, d2] => { results := [.lit (.bool true)], args := [d1, d2] }
  | _ => none }
def stemAgreedRow : OpenClaim := { program := "ytncpeobcgmkkbaa", sum := "3290e8619c8853a1033e9cc292b9324c5b8beac97282b1054c6ff3cc234e4073", func := "parvise/parviselaw04.StemAgreed", spec := "stemAgreed", unfollowed := true, recurses := true, apart := false }
def StemAgreedSaid : Prop := stemAgreedRow.holds Try.pinned (OpenSpec.ofChange stemAgreedSpec)

/-- ITS FALSE NEIGHBOUR: 'it returns false'. Refute it at one input. -/
def stemAgreedWrong : ChangeSpec := { name := "stemAgreed", fn := fun _ => fun
  | [d1, d2] => { results := [.lit (.bool false)], args := [d1, d2] }
  | _ => none }
def StemAgreedWrongFalsely : Prop := stemAgreedRow.holds Try.pinned (OpenSpec.ofChange stemAgreedWrong)

/- THE SECOND FORM. 'bulk': how many values and letters a reading holds, each counted each time it is reached (what is shared counts as often as it is met; a slice's spare places count too). A statement '..UptoSaid' is the law's where the arguments, and the package variables that the reading takes, are together of bulk at most 1048576: NARROWER than '..Said'. Prove '..Said' where nothing that the law and all that it calls make is longer than what came in: it says more and counts as full. Else prove '..UptoSaid'. A law counts once. -/
mutual
def uptoBulk {H : Type} : DataW H → Nat
  | .lit (.string bytes) => bytes.length + 1
  | .lit _ => 1
  | .nil => 1
  | .ptr d => uptoBulk d + 1
  | .slice elems spare => uptoBulkAll elems + uptoBulkAll spare + 1
  | .agg parts => uptoBulkAll parts + 1
  | .iface _ d => uptoBulk d + 1
  | .map entries => uptoBulkEntries entries + 1
  | .held _ => 1
def uptoBulkAll {H : Type} : List (DataW H) → Nat
  | [] => 0
  | d :: r => uptoBulk d + uptoBulkAll r
def uptoBulkEntries {H : Type} : List (Lit × DataW H) → Nat
  | [] => 0
  | x :: r => uptoBulkEntry x + uptoBulkEntries r
def uptoBulkEntry {H : Type} : Lit × DataW H → Nat
  | (.string bytes, d) => bytes.length + uptoBulk d + 1
  | (_, d) => uptoBulk d + 1
 end
def uptoSmall : (H : Type) → List (DataW H) → Bool := fun _ ds => decide (uptoBulkAll ds ≤ 1048576)
def OpenSpec.upto (s : _root_.Go.ChangeSpec) : _root_.Go.OpenSpec := { _root_.Go.OpenSpec.ofChange s with cond := some uptoSmall }

/-- 'parviselaw04.StemSlips', WHERE WHAT IT READS IS OF BULK AT MOST 1048576: true; the input reads as it did. -/
def stemSlipsUptoRow : OpenClaim := { program := "ytncpeobcgmkkbaa", sum := "3290e8619c8853a1033e9cc292b9324c5b8beac97282b1054c6ff3cc234e4073", func := "parvise/parviselaw04.StemSlips", spec := "stemSlips", unfollowed := true, recurses := true, apart := false, narrowed := true }
def StemSlipsUptoSaid : Prop := stemSlipsUptoRow.holds Try.pinned (OpenSpec.upto stemSlipsSpec)

/-- 'parviselaw04.StemAgreed', WHERE WHAT IT READS IS OF BULK AT MOST 1048576: true; the input reads as it did. -/
def stemAgreedUptoRow : OpenClaim := { program := "ytncpeobcgmkkbaa", sum := "3290e8619c8853a1033e9cc292b9324c5b8beac97282b1054c6ff3cc234e4073", func := "parvise/parviselaw04.StemAgreed", spec := "stemAgreed", unfollowed := true, recurses := true, apart := false, narrowed := true }
def StemAgreedUptoSaid : Prop := stemAgreedUptoRow.holds Try.pinned (OpenSpec.upto stemAgreedSpec)

end Rows
end Go.Proofs.Ytncpeobcgmkkbaa
