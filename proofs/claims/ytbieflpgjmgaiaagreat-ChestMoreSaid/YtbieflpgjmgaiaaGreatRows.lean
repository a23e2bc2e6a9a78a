/-
  No cell of these rows narrows 'for every input' (looked for: loops, veiled, ifaces, maps, wideKeys, modest, calm, conditions, laid).
  DERIVED. THE GIVEN ROWS OF THIS SEAT. 7 by the template 'for every input the law returns true; each argument reads behind the call as it read before'; 0 by the template 'total and deterministic' (their statements: YtbieflpgjmgaiaaGreatTotals.lean).
  GIVEN WITH THE SEED: the statements are not yours to turn. If you find one false, say at which input.
  Laid BY PROGRAM, IN A SANDBOX (cutbox-rows.mjs): the forced cells as the released guide's own fill.sh prints them over the translation 05808504c407805e… (all of the seat's roots in one cut). By AI agents, Wed Nov 11 2026. No macro, syntax, notation, axiom, sorry.
-/
import Derived.Test.YtbieflpgjmgaiaaGreatChecked
import GoSem.Claim
import GoSem.ClaimJoined
import GoSem.ClaimMapViews
import Derived.JoinedTies
import Derived.KernelRfl
namespace Go.Proofs.YtbieflpgjmgaiaaGreat
/- THE CELL 'sum', in the pinned program and in every row, IS THE sha256 OF THE DUMP (.gsa) THAT YtbieflpgjmgaiaaGreatProg.lean LOADS. Nothing in Lean hashes anything: it is a label: what it is worth is what the hold of that sum in a sandbox is worth. -/
noncomputable def Tryz.pinned : Pinned := { name := "ytbieflpgjmgaiaagreat", sum := "05808504c407805e66e874501a8ccbfd5cde1c1b0e73af78f7931b62792e1287", checked := Tryz.checked }
namespace Rows
def none {H : Type} : Left H := { results := [], args := [] }

/-- 'parviselaw06.ChestTruths': WHATEVER THE INPUT: true; the input reads as it did. -/
def chestTruthsSpec : ChangeSpec := { name := "chestTruths", fn := fun _ => fun
  | [d1, d2, d3] => { results := [.lit (.bool true)], args := [d1, d2, d3] }
  | _ => none }
def chestTruthsRow : OpenClaim := { program := "ytbieflpgjmgaiaagreat", sum := "05808504c407805e66e874501a8ccbfd5cde1c1b0e73af78f7931b62792e1287", func := "parvise/parviselaw06.ChestTruths", spec := "chestTruths", unfollowed := true, recurses := true, apart := false }
def ChestTruthsSaid : Prop := chestTruthsRow.holds Tryz.pinned (OpenSpec.ofChange chestTruthsSpec)

/-- ITS FALSE NEIGHBOUR: 'it returns false'. Refute it at one input. -/
def chestTruthsWrong : ChangeSpec := { name := "chestTruths", fn := fun _ => fun
  | [d1, d2, d3] => { results := [.lit (.bool false)], args := [d1, d2, d3] }
  | _ => none }
def ChestTruthsWrongFalsely : Prop := chestTruthsRow.holds Tryz.pinned (OpenSpec.ofChange chestTruthsWrong)

/-- 'parviselaw06.ChestLists': WHATEVER THE INPUT: true; the input reads as it did. -/
def chestListsSpec : ChangeSpec := { name := "chestLists", fn := fun _ => fun
  | [d1, d2, d3] => { results := [.lit (.bool true)], args := [d1, d2, d3] }
  | _ => none }
def chestListsRow : OpenClaim := { program := "ytbieflpgjmgaiaagreat", sum := "05808504c407805e66e874501a8ccbfd5cde1c1b0e73af78f7931b62792e1287", func := "parvise/parviselaw06.ChestLists", spec := "chestLists", unfollowed := true, recurses := true, apart := false }
def ChestListsSaid : Prop := chestListsRow.holds Tryz.pinned (OpenSpec.ofChange chestListsSpec)

/-- ITS FALSE NEIGHBOUR: 'it returns false'. Refute it at one input. -/
def chestListsWrong : ChangeSpec := { name := "chestLists", fn := fun _ => fun
  | [d1, d2, d3] => { results := [.lit (.bool false)], args := [d1, d2, d3] }
  | _ => none }
def ChestListsWrongFalsely : Prop := chestListsRow.holds Tryz.pinned (OpenSpec.ofChange chestListsWrong)

/-- 'parviselaw06.ChestKnown': WHATEVER THE INPUT: true; the input reads as it did. -/
def chestKnownSpec : ChangeSpec := { name := "chestKnown", fn := fun _ => fun
  | [d1, d2] => { results := [.lit (.bool true)], args := [d1, d2] }
  | _ => none }
def chestKnownRow : OpenClaim := { program := "ytbieflpgjmgaiaagreat", sum := "05808504c407805e66e874501a8ccbfd5cde1c1b0e73af78f7931b62792e1287", func := "parvise/parviselaw06.ChestKnown", spec := "chestKnown", unfollowed := true, recurses := true, apart := false }
def ChestKnownSaid : Prop := chestKnownRow.holds Tryz.pinned (OpenSpec.ofChange chestKnownSpec)

/-- ITS FALSE NEIGHBOUR: 'it returns false'. Refute it at one input. -/
def chestKnownWrong : ChangeSpec := { name := "chestKnown", fn := fun _ => fun
  | [d1, d2] => { results := [.lit (.bool false)], args := [d1, d2] }
  | _ => none }
def ChestKnownWrongFalsely : Prop := chestKnownRow.holds Tryz.pinned (OpenSpec.ofChange chestKnownWrong)

/-- 'parviselaw06.ChestFewest': WHATEVER THE INPUT: true; the input reads as it did. -/
def chestFewestSpec : ChangeSpec := { name := "chestFewest", fn := fun _ => fun
  | [d1, d2, d3] => { results := [.lit (.bool true)], args := [d1, d2, d3] }
  | _ => none }
def chestFewestRow : OpenClaim := { program := "ytbieflpgjmgaiaagreat", sum := "05808504c407805e66e874501a8ccbfd5cde1c1b0e73af78f7931b62792e1287", func := "parvise/parviselaw06.ChestFewest", spec := "chestFewest", unfollowed := true, recurses := true, apart := false }
def ChestFewestSaid : Prop := chestFewestRow.holds Tryz.pinned (OpenSpec.ofChange chestFewestSpec)

/-- ITS FALSE NEIGHBOUR: 'it returns false'. Refute it at one input. -/
def chestFewestWrong : ChangeSpec := { name := "chestFewest", fn := fun _ => fun
  | [d1, d2, d3] => { results := [.lit (.bool false)], args := [d1, d2, d3] }
  | _ => none }
def ChestFewestWrongFalsely : Prop := chestFewestRow.holds Tryz.pinned (OpenSpec.ofChange chestFewestWrong)

/-- 'parviselaw06.ChestCovers': WHATEVER THE INPUT: true; the input reads as it did. -/
def chestCoversSpec : ChangeSpec := { name := "chestCovers", fn := fun _ => fun
  | [d1, d2] => { results := [.lit (.bool true)], args := [d1, d2] }
  | _ => none }
def chestCoversRow : OpenClaim := { program := "ytbieflpgjmgaiaagreat", sum := "05808504c407805e66e874501a8ccbfd5cde1c1b0e73af78f7931b62792e1287", func := "parvise/parviselaw06.ChestCovers", spec := "chestCovers", unfollowed := true, recurses := true, apart := false }
def ChestCoversSaid : Prop := chestCoversRow.holds Tryz.pinned (OpenSpec.ofChange chestCoversSpec)

/-- ITS FALSE NEIGHBOUR: 'it returns false'. Refute it at one input. -/
def chestCoversWrong : ChangeSpec := { name := "chestCovers", fn := fun _ => fun
  | [d1, d2] => { results := [.lit (.bool false)], args := [d1, d2] }
  | _ => none }
def ChestCoversWrongFalsely : Prop := chestCoversRow.holds Tryz.pinned (OpenSpec.ofChange chestCoversWrong)

/-- 'parviselaw06.ChestMore': WHATEVER THE INPUT: true; the input reads as it did. -/
def chestMoreSpec : ChangeSpec := { name := "chestMore", fn := fun _ => fun
  | [d1, d2] => { results := [.lit (.bool true)], args := [d1, d2] }
  | _ => none }
def chestMoreRow : OpenClaim := { program := "ytbieflpgjmgaiaagreat", sum := "05808504c407805e66e874501a8ccbfd5cde1c1b0e73af78f7931b62792e1287", func := "parvise/parviselaw06.ChestMore", spec := "chestMore", inPlace := ["slices.overlaps[parvise/api.Opening]"], unfollowed := true, recurses := true, apart := false }
def ChestMoreSaid : Prop := chestMoreRow.holds Tryz.pinned (OpenSpec.ofChange chestMoreSpec)

/-- ITS FALSE NEIGHBOUR: 'it returns false'. Refute it at one input. -/
def chestMoreWrong : ChangeSpec := { name := "chestMore", fn := fun _ => fun
  | [d1, d2] => { results := [.lit (.bool false)], args := [d1, d2] }
  | _ => none }
def ChestMoreWrongFalsely : Prop := chestMoreRow.holds Tryz.pinned (OpenSpec.ofChange chestMoreWrong)

/-- 'parviselaw06.ChestChecks': WHATEVER THE INPUT: true; the input reads as it did. -/
def chestChecksSpec : ChangeSpec := { name := "chestChecks", fn := fun _ => fun
  | [d1, d2] => { results := [.lit (.bool true)], args := [d1, d2] }
  | _ => none }
def chestChecksRow : OpenClaim := { program := "ytbieflpgjmgaiaagreat", sum := "05808504c407805e66e874501a8ccbfd5cde1c1b0e73af78f7931b62792e1287", func := "parvise/parviselaw06.ChestChecks", spec := "chestChecks", inPlace := ["slices.overlaps[parvise/api.Opening]"], unfollowed := true, recurses := true, apart := false }
def ChestChecksSaid : Prop := chestChecksRow.holds Tryz.pinned (OpenSpec.ofChange chestChecksSpec)

/-- ITS FALSE NEIGHBOUR: 'it returns false'. Refute it at one input. -/
def chestChecksWrong : ChangeSpec := { name := "chestChecks", fn := fun _ => fun
  | [d1, d2] => { results := [.lit (.bool false)], args := [d1, d2] }
  | _ => none }
def ChestChecksWrongFalsely : Prop := chestChecksRow.holds Tryz.pinned (OpenSpec.ofChange chestChecksWrong)

/- THE SECOND FORM. 'bulk': how many values and letters a reading holds, each counted each time it is reached (what is shared counts as often as it is met; a slice's spare places count too). A statement '..UptoSaid' is the law's where the arguments, and the package variables that the reading takes, are together of bulk at most 1048576: NARROWER than '..Said'. Prove '..Said' where nothing that the law and all that it calls make is longer than what came in: it says more and counts as full. Else prove '..UptoSaid'. A law counts once. -/
mutual
def uptoBulk {H : Type} : DataW H → Nat
  | .lit (.string bytes) => bytes.length + 1
  | .lit _ => 1
  | .nil => 1
  | .ptr d => uptoBulk d + 1
  | .slice elems spare => uptoBulkAll elems + uptoBulkAll spare + 1
  | .agg parts => uptoBulkAll parts + 1
  | .iface _ d => uptoBulk d + 1
  | .map entries => uptoBulkEntries entries + 1
  | .held _ => 1
def uptoBulkAll {H : Type} : List (DataW H) → Nat
  | [] => 0
  | d :: r => uptoBulk d + uptoBulkAll r
def uptoBulkEntries {H : Type} : List (Lit × DataW H) → Nat
  | [] => 0
  | x :: r => uptoBulkEntry x + uptoBulkEntries r
def uptoBulkEntry {H : Type} : Lit × DataW H → Nat
  | (.string bytes, d) => bytes.length + uptoBulk d + 1
  | (_, d) => uptoBulk d + 1
 end
def uptoSmall : (H : Type) → List (DataW H) → Bool := fun _ ds => decide (uptoBulkAll ds ≤ 1048576)
def OpenSpec.upto (s : _root_.Go.ChangeSpec) : _root_.Go.OpenSpec := { _root_.Go.OpenSpec.ofChange s with cond := some uptoSmall }

/-- 'parviselaw06.ChestTruths', WHERE WHAT IT READS IS OF BULK AT MOST 1048576: true; the input reads as it did. -/
def chestTruthsUptoRow : OpenClaim := { program := "ytbieflpgjmgaiaagreat", sum := "05808504c407805e66e874501a8ccbfd5cde1c1b0e73af78f7931b62792e1287", func := "parvise/parviselaw06.ChestTruths", spec := "chestTruths", unfollowed := true, recurses := true, apart := false, narrowed := true }
def ChestTruthsUptoSaid : Prop := chestTruthsUptoRow.holds Tryz.pinned (OpenSpec.upto chestTruthsSpec)

/-- 'parviselaw06.ChestLists', WHERE WHAT IT READS IS OF BULK AT MOST 1048576: true; the input reads as it did. -/
def chestListsUptoRow : OpenClaim := { program := "ytbieflpgjmgaiaagreat", sum := "05808504c407805e66e874501a8ccbfd5cde1c1b0e73af78f7931b62792e1287", func := "parvise/parviselaw06.ChestLists", spec := "chestLists", unfollowed := true, recurses := true, apart := false, narrowed := true }
def ChestListsUptoSaid : Prop := chestListsUptoRow.holds Tryz.pinned (OpenSpec.upto chestListsSpec)

/-- 'parviselaw06.ChestKnown', WHERE WHAT IT READS IS OF BULK AT MOST 1048576: true; the input reads as it did. -/
def chestKnownUptoRow : OpenClaim := { program := "ytbieflpgjmgaiaagreat", sum := "05808504c407805e66e874501a8ccbfd5cde1c1b0e73af78f7931b62792e1287", func := "parvise/parviselaw06.ChestKnown", spec := "chestKnown", unfollowed := true, recurses := true, apart := false, narrowed := true }
def ChestKnownUptoSaid : Prop := chestKnownUptoRow.holds Tryz.pinned (OpenSpec.upto chestKnownSpec)

/-- 'parviselaw06.ChestFewest', WHERE WHAT IT READS IS OF BULK AT MOST 1048576: true; the input reads as it did. -/
def chestFewestUptoRow : OpenClaim := { program := "ytbieflpgjmgaiaagreat", sum := "05808504c407805e66e874501a8ccbfd5cde1c1b0e73af78f7931b62792e1287", func := "parvise/parviselaw06.ChestFewest", spec := "chestFewest", unfollowed := true, recurses := true, apart := false, narrowed := true }
def ChestFewestUptoSaid : Prop := chestFewestUptoRow.holds Tryz.pinned (OpenSpec.upto chestFewestSpec)

/-- 'parviselaw06.ChestCovers', WHERE WHAT IT READS IS OF BULK AT MOST 1048576: true; the input reads as it did. -/
def chestCoversUptoRow : OpenClaim := { program := "ytbieflpgjmgaiaagreat", sum := "05808504c407805e66e874501a8ccbfd5cde1c1b0e73af78f7931b62792e1287", func := "parvise/parviselaw06.ChestCovers", spec := "chestCovers", unfollowed := true, recurses := true, apart := false, narrowed := true }
def ChestCoversUptoSaid : Prop := chestCoversUptoRow.holds Tryz.pinned (OpenSpec.upto chestCoversSpec)

/-- 'parviselaw06.ChestMore', WHERE WHAT IT READS IS OF BULK AT MOST 1048576: true; the input reads as it did. -/
def chestMoreUptoRow : OpenClaim := { program := "ytbieflpgjmgaiaagreat", sum := "05808504c407805e66e874501a8ccbfd5cde1c1b0e73af78f7931b62792e1287", func := "parvise/parviselaw06.ChestMore", spec := "chestMore", inPlace := ["slices.overlaps[parvise/api.Opening]"], unfollowed := true, recurses := true, apart := false, narrowed := true }
def ChestMoreUptoSaid : Prop := chestMoreUptoRow.holds Tryz.pinned (OpenSpec.upto chestMoreSpec)

/-- 'parviselaw06.ChestChecks', WHERE WHAT IT READS IS OF BULK AT MOST 1048576: true; the input reads as it did. -/
def chestChecksUptoRow : OpenClaim := { program := "ytbieflpgjmgaiaagreat", sum := "05808504c407805e66e874501a8ccbfd5cde1c1b0e73af78f7931b62792e1287", func := "parvise/parviselaw06.ChestChecks", spec := "chestChecks", inPlace := ["slices.overlaps[parvise/api.Opening]"], unfollowed := true, recurses := true, apart := false, narrowed := true }
def ChestChecksUptoSaid : Prop := chestChecksUptoRow.holds Tryz.pinned (OpenSpec.upto chestChecksSpec)

end Rows
end Go.Proofs.YtbieflpgjmgaiaaGreat
