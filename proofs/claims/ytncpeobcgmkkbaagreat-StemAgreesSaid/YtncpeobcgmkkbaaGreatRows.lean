/-
  No cell of these rows narrows 'for every input' (looked for: loops, veiled, ifaces, maps, wideKeys, modest, calm, conditions, laid).
  DERIVED. THE GIVEN ROWS OF THIS SEAT. 5 by the template 'for every input the law returns true; each argument reads behind the call as it read before'; 0 by the template 'total and deterministic' (their statements: YtncpeobcgmkkbaaGreatTotals.lean).
  GIVEN WITH THE SEED: the statements are not yours to turn. If you find one false, say at which input.
  Laid BY PROGRAM, IN A SANDBOX (cutbox-rows.mjs): the forced cells as the released guide's own fill.sh prints them over the translation 101d6df878068a9e… (all of the seat's roots in one cut). By AI agents, Wed Nov 11 2026. No macro, syntax, notation, axiom, sorry.
-/
import Derived.Test.YtncpeobcgmkkbaaGreatChecked
import GoSem.Claim
import GoSem.ClaimJoined
import GoSem.ClaimMapViews
import Derived.JoinedTies
import Derived.KernelRfl
namespace Go.Proofs.YtncpeobcgmkkbaaGreat
/- THE CELL 'sum', in the pinned program and in every row, IS THE sha256 OF THE DUMP (.gsa) THAT YtncpeobcgmkkbaaGreatProg.lean LOADS. Nothing in Lean hashes anything: it is a label: what it is worth is what the hold of that sum in a sandbox is worth. -/
noncomputable def Tryz.pinned : Pinned := { name := "ytncpeobcgmkkbaagreat", sum := "101d6df878068a9e7b4355ebf3f010952adab74eafe3f912a9d3cb62512ec0df", checked := Tryz.checked }
namespace Rows
def none {H : Type} : Left H := { results := [], args := [] }

/-- 'parviselaw04.StemPedigrees': WHATEVER THE INPUT: true; the input reads as it did. -/
def stemPedigreesSpec : ChangeSpec := { name := "stemPedigrees", fn := fun _ => fun
  | [d1, d2] => { results := [.lit (.bool true)], args := [d1, d2] }
  | _ => none }
def stemPedigreesRow : OpenClaim := { program := "ytncpeobcgmkkbaagreat", sum := "101d6df878068a9e7b4355ebf3f010952adab74eafe3f912a9d3cb62512ec0df", func := "parvise/parviselaw04.StemPedigrees", spec := "stemPedigrees", unfollowed := true, recurses := true, apart := false }
def StemPedigreesSaid : Prop := stemPedigreesRow.holds Tryz.pinned (OpenSpec.ofChange stemPedigreesSpec)

/-- ITS FALSE NEIGHBOUR: 'it returns false'. Refute it at one input. -/
def stemPedigreesWrong : ChangeSpec := { name := "stemPedigrees", fn := fun _ => fun
  | [d1, d2] => { results := [.lit (.bool false)], args := [d1, d2] }
  | _ => none }
def StemPedigreesWrongFalsely : Prop := stemPedigreesRow.holds Tryz.pinned (OpenSpec.ofChange stemPedigreesWrong)

/-- 'parviselaw04.StemAgrees': WHATEVER THE INPUT: true; the input reads as it did. -/
def stemAgreesSpec : ChangeSpec := { name := "stemAgrees", fn := fun _ => fun
  | [d1, d2, d3] => { results := [.lit (.bool true)], args := [d1, d2, d3] }
  | _ => none }
def stemAgreesRow : OpenClaim := { program := "ytncpeobcgmkkbaagreat", sum := "101d6df878068a9e7b4355ebf3f010952adab74eafe3f912a9d3cb62512ec0df", func := "parvise/parviselaw04.StemAgrees", spec := "stemAgrees", unfollowed := true, recurses := true, apart := false }
def StemAgreesSaid : Prop := stemAgreesRow.holds Tryz.pinned (OpenSpec.ofChange stemAgreesSpec)

/-- ITS FALSE NEIGHBOUR: 'it returns false'. Refute it at one input. -/
def stemAgreesWrong : ChangeSpec := { name := "stemAgrees", fn := fun _ => fun
  | [d1, d2, d3] => { results := [.lit (.bool false)], args := [d1, d2, d3] }
  | _ => none }
def StemAgreesWrongFalsely : Prop := stemAgreesRow.holds Tryz.pinned (OpenSpec.ofChange stemAgreesWrong)

/-- 'parviselaw04.StemLess': WHATEVER THE INPUT: true; the input reads as it did. -/
def stemLessSpec : ChangeSpec := { name := "stemLess", fn := fun _ => fun
  | [d1, d2] => { results := [.lit (.bool true)], args := [d1, d2] }
  | _ => none }
def stemLessRow : OpenClaim := { program := "ytncpeobcgmkkbaagreat", sum := "101d6df878068a9e7b4355ebf3f010952adab74eafe3f912a9d3cb62512ec0df", func := "parvise/parviselaw04.StemLess", spec := "stemLess", unfollowed := true, recurses := true, apart := false }
def StemLessSaid : Prop := stemLessRow.holds Tryz.pinned (OpenSpec.ofChange stemLessSpec)

/-- ITS FALSE NEIGHBOUR: 'it returns false'. Refute it at one input. -/
def stemLessWrong : ChangeSpec := { name := "stemLess", fn := fun _ => fun
  | [d1, d2] => { results := [.lit (.bool false)], args := [d1, d2] }
  | _ => none }
def StemLessWrongFalsely : Prop := stemLessRow.holds Tryz.pinned (OpenSpec.ofChange stemLessWrong)

/-- 'parviselaw04.StemChecks': WHATEVER THE INPUT: true; the input reads as it did. -/
def stemChecksSpec : ChangeSpec := { name := "stemChecks", fn := fun _ => fun
  | [d1, d2] => { results := [.lit (.bool true)], args := [d1, d2] }
  | _ => none }
def stemChecksRow : OpenClaim := { program := "ytncpeobcgmkkbaagreat", sum := "101d6df878068a9e7b4355ebf3f010952adab74eafe3f912a9d3cb62512ec0df", func := "parvise/parviselaw04.StemChecks", spec := "stemChecks", unfollowed := true, recurses := true, apart := false }
def StemChecksSaid : Prop := stemChecksRow.holds Tryz.pinned (OpenSpec.ofChange stemChecksSpec)

/-- ITS FALSE NEIGHBOUR: 'it returns false'. Refute it at one input. -/
def stemChecksWrong : ChangeSpec := { name := "stemChecks", fn := fun _ => fun
  | [d1, d2] => { results := [.lit (.bool false)], args := [d1, d2] }
  | _ => none }
def StemChecksWrongFalsely : Prop := stemChecksRow.holds Tryz.pinned (OpenSpec.ofChange stemChecksWrong)

/-- 'parviselaw04.StemProofs': WHATEVER THE INPUT: true; the input reads as it did. -/
def stemProofsSpec : ChangeSpec := { name := "stemProofs", fn := fun _ => fun
  | [d1, d2, d3] => { results := [.lit (.bool true)], args := [d1, d2, d3] }
  | _ => none }
def stemProofsRow : OpenClaim := { program := "ytncpeobcgmkkbaagreat", sum := "101d6df878068a9e7b4355ebf3f010952adab74eafe3f912a9d3cb62512ec0df", func := "parvise/parviselaw04.StemProofs", spec := "stemProofs", unfollowed := true, recurses := true, apart := false }
def StemProofsSaid : Prop := stemProofsRow.holds Tryz.pinned (OpenSpec.ofChange stemProofsSpec)

/-- ITS FALSE NEIGHBOUR: 'it returns false'. Refute it at one input. -/
def stemProofsWrong : ChangeSpec := { name := "stemProofs", fn := fun _ => fun
  | [d1, d2, d3] => { results := [.lit (.bool false)], args := [d1, d2, d3] }
  | _ => none }
def StemProofsWrongFalsely : Prop := stemProofsRow.holds Tryz.pinned (OpenSpec.ofChange stemProofsWrong)

/- THE SECOND FORM. 'bulk': how many values and letters a reading holds, each counted each time it is reached (what is shared counts as often as it is met; a slice's spare places count too). A statement '..UptoSaid' is the law's where the arguments, and the package variables that the reading takes, are together of bulk at most 1048576: NARROWER than '..Said'. Prove '..Said' where nothing that the law and all that it calls make is longer than what came in: it says more and counts as full. Else prove '..UptoSaid'. A law counts once. -/
mutual
def uptoBulk {H : Type} : DataW H → Nat
  | .lit (.string bytes) => bytes.length + 1
  | .lit _ => 1
  | .nil => 1
  | .ptr d => uptoBulk d + 1
  | .slice elems spare => uptoBulkAll elems + uptoBulkAll spare + 1
  | .agg parts => uptoBulkAll parts + 1
  | .iface _ d => uptoBulk d + 1
  | .map entries => uptoBulkEntries entries + 1
  | .held _ => 1
def uptoBulkAll {H : Type} : List (DataW H) → Nat
  | [] => 0
  | d :: r => uptoBulk d + uptoBulkAll r
def uptoBulkEntries {H : Type} : List (Lit × DataW H) → Nat
  | [] => 0
  | x :: r => uptoBulkEntry x + uptoBulkEntries r
def uptoBulkEntry {H : Type} : Lit × DataW H → Nat
  | (.string bytes, d) => bytes.length + uptoBulk d + 1
  | (_, d) => uptoBulk d + 1
 end
def uptoSmall : (H : Type) → List (DataW H) → Bool := fun _ ds => decide (uptoBulkAll ds ≤ 1048576)
def OpenSpec.upto (s : _root_.Go.ChangeSpec) : _root_.Go.OpenSpec := { _root_.Go.OpenSpec.ofChange s with cond := some uptoSmall }

/-- 'parviselaw04.StemPedigrees', WHERE WHAT IT READS IS OF BULK AT MOST 1048576: true; the input reads as it did. -/
def stemPedigreesUptoRow : OpenClaim := { program := "ytncpeobcgmkkbaagreat", sum := "101d6df878068a9e7b4355ebf3f010952adab74eafe3f912a9d3cb62512ec0df", func := "parvise/parviselaw04.StemPedigrees", spec := "stemPedigrees", unfollowed := true, recurses := true, apart := false, narrowed := true }
def StemPedigreesUptoSaid : Prop := stemPedigreesUptoRow.holds Tryz.pinned (OpenSpec.upto stemPedigreesSpec)

/-- 'parviselaw04.StemAgrees', WHERE WHAT IT READS IS OF BULK AT MOST 1048576: true; the input reads as it did. -/
def stemAgreesUptoRow : OpenClaim := { program := "ytncpeobcgmkkbaagreat", sum := "101d6df878068a9e7b4355ebf3f010952adab74eafe3f912a9d3cb62512ec0df", func := "parvise/parviselaw04.StemAgrees", spec := "stemAgrees", unfollowed := true, recurses := true, apart := false, narrowed := true }
def StemAgreesUptoSaid : Prop := stemAgreesUptoRow.holds Tryz.pinned (OpenSpec.upto stemAgreesSpec)

/-- 'parviselaw04.StemLess', WHERE WHAT IT READS IS OF BULK AT MOST 1048576: true; the input reads as it did. -/
def stemLessUptoRow : OpenClaim := { program := "ytncpeobcgmkkbaagreat", sum := "101d6df878068a9e7b4355ebf3f010952adab74eafe3f912a9d3cb62512ec0df", func := "parvise/parviselaw04.StemLess", spec := "stemLess", unfollowed := true, recurses := true, apart := false, narrowed := true }
def StemLessUptoSaid : Prop := stemLessUptoRow.holds Tryz.pinned (OpenSpec.upto stemLessSpec)

/-- 'parviselaw04.StemChecks', WHERE WHAT IT READS IS OF BULK AT MOST 1048576: true; the input reads as it did. -/
def stemChecksUptoRow : OpenClaim := { program := "ytncpeobcgmkkbaagreat", sum := "101d6df878068a9e7b4355ebf3f010952adab74eafe3f912a9d3cb62512ec0df", func := "parvise/parviselaw04.StemChecks", spec := "stemChecks", unfollowed := true, recurses := true, apart := false, narrowed := true }
def StemChecksUptoSaid : Prop := stemChecksUptoRow.holds Tryz.pinned (OpenSpec.upto stemChecksSpec)

/-- 'parviselaw04.StemProofs', WHERE WHAT IT READS IS OF BULK AT MOST 1048576: true; the input reads as it did. -/
def stemProofsUptoRow : OpenClaim := { program := "ytncpeobcgmkkbaagreat", sum := "101d6df878068a9e7b4355ebf3f010952adab74eafe3f912a9d3cb62512ec0df", func := "parvise/parviselaw04.StemProofs", spec := "stemProofs", unfollowed := true, recurses := true, apart := false, narrowed := true }
def StemProofsUptoSaid : Prop := stemProofsUptoRow.holds Tryz.pinned (OpenSpec.upto stemProofsSpec)

end Rows
end Go.Proofs.YtncpeobcgmkkbaaGreat
