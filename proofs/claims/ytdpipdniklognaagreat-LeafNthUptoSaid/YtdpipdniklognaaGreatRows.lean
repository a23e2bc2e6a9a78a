/-
  No cell of these rows narrows 'for every input' (looked for: loops, veiled, ifaces, maps, wideKeys, modest, calm, conditions, laid).
  DERIVED. THE GIVEN ROWS OF THIS SEAT. 9 by the template 'for every input the law returns true; each argument reads behind the call as it read before'; 0 by the template 'total and deterministic' (their statements: YtdpipdniklognaaGreatTotals.lean).
  GIVEN WITH THE SEED: the statements are not yours to turn. If you find one false, say at which input.
  Laid BY PROGRAM, IN A SANDBOX (cutbox-rows.mjs): the forced cells as the released guide's own fill.sh prints them over the translation b1068b64b8dd76dc… (all of the seat's roots in one cut). By AI agents, Wed Nov 11 2026. No macro, syntax, notation, axiom, sorry.
-/
import Derived.Test.YtdpipdniklognaaGreatChecked
import GoSem.Claim
import GoSem.ClaimJoined
import GoSem.ClaimMapViews
import Derived.JoinedTies
import Derived.KernelRfl
namespace Go.Proofs.YtdpipdniklognaaGreat
/- THE CELL 'sum', in the pinned program and in every row, IS THE sha256 OF THE DUMP (.gsa) THAT YtdpipdniklognaaGreatProg.lean LOADS. Nothing in Lean hashes anything: it is a label: what it is worth is what the hold of that sum in a sandbox is worth. -/
noncomputable def Tryz.pinned : Pinned := { name := "ytdpipdniklognaagreat", sum := "b1068b64b8dd76dc22d08ca5ff6c7a48a31b2a826b28c9b87da1636c9b6017dd", checked := Tryz.checked }
namespace Rows
def none {H : Type} : Left H := { results := [], args := [] }

/-- 'parviselaw05.LeafNeighbours': WHATEVER THE INPUT: true; the input reads as it did. -/
def leafNeighboursSpec : ChangeSpec := { name := "leafNeighbours", fn := fun _ => fun
  | [d1, d2] => { results := [.lit (.bool true)], args := [d1, d2] }
  | _ => none }
def leafNeighboursRow : OpenClaim := { program := "ytdpipdniklognaagreat", sum := "b1068b64b8dd76dc22d08ca5ff6c7a48a31b2a826b28c9b87da1636c9b6017dd", func := "parvise/parviselaw05.LeafNeighbours", spec := "leafNeighbours", unfollowed := true, recurses := true, plainKeys := false, apart := false }
def LeafNeighboursSaid : Prop := leafNeighboursRow.holds Tryz.pinned (OpenSpec.ofChange leafNeighboursSpec)

/-- ITS FALSE NEIGHBOUR: 'it returns false'. Refute it at one input. -/
def leafNeighboursWrong : ChangeSpec := { name := "leafNeighbours", fn := fun _ => fun
  | [d1, d2] => { results := [.lit (.bool false)], args := [d1, d2] }
  | _ => none }
def LeafNeighboursWrongFalsely : Prop := leafNeighboursRow.holds Tryz.pinned (OpenSpec.ofChange leafNeighboursWrong)

/-- 'parviselaw05.LeafConflicts': WHATEVER THE INPUT: true; the input reads as it did. -/
def leafConflictsSpec : ChangeSpec := { name := "leafConflicts", fn := fun _ => fun
  | [d1, d2, d3] => { results := [.lit (.bool true)], args := [d1, d2, d3] }
  | _ => none }
def leafConflictsRow : OpenClaim := { program := "ytdpipdniklognaagreat", sum := "b1068b64b8dd76dc22d08ca5ff6c7a48a31b2a826b28c9b87da1636c9b6017dd", func := "parvise/parviselaw05.LeafConflicts", spec := "leafConflicts", unfollowed := true, recurses := true, plainKeys := false, apart := false }
def LeafConflictsSaid : Prop := leafConflictsRow.holds Tryz.pinned (OpenSpec.ofChange leafConflictsSpec)

/-- ITS FALSE NEIGHBOUR: 'it returns false'. Refute it at one input. -/
def leafConflictsWrong : ChangeSpec := { name := "leafConflicts", fn := fun _ => fun
  | [d1, d2, d3] => { results := [.lit (.bool false)], args := [d1, d2, d3] }
  | _ => none }
def LeafConflictsWrongFalsely : Prop := leafConflictsRow.holds Tryz.pinned (OpenSpec.ofChange leafConflictsWrong)

/-- 'parviselaw05.LeafTrue': WHATEVER THE INPUT: true; the input reads as it did. -/
def leafTrueSpec : ChangeSpec := { name := "leafTrue", fn := fun _ => fun
  | [d1, d2] => { results := [.lit (.bool true)], args := [d1, d2] }
  | _ => none }
def leafTrueRow : OpenClaim := { program := "ytdpipdniklognaagreat", sum := "b1068b64b8dd76dc22d08ca5ff6c7a48a31b2a826b28c9b87da1636c9b6017dd", func := "parvise/parviselaw05.LeafTrue", spec := "leafTrue", unfollowed := true, recurses := true, plainKeys := false, apart := false }
def LeafTrueSaid : Prop := leafTrueRow.holds Tryz.pinned (OpenSpec.ofChange leafTrueSpec)

/-- ITS FALSE NEIGHBOUR: 'it returns false'. Refute it at one input. -/
def leafTrueWrong : ChangeSpec := { name := "leafTrue", fn := fun _ => fun
  | [d1, d2] => { results := [.lit (.bool false)], args := [d1, d2] }
  | _ => none }
def LeafTrueWrongFalsely : Prop := leafTrueRow.holds Tryz.pinned (OpenSpec.ofChange leafTrueWrong)

/-- 'parviselaw05.LeafNth': WHATEVER THE INPUT: true; the input reads as it did. -/
def leafNthSpec : ChangeSpec := { name := "leafNth", fn := fun _ => fun
  | [d1, d2] => { results := [.lit (.bool true)], args := [d1, d2] }
  | _ => none }
def leafNthRow : OpenClaim := { program := "ytdpipdniklognaagreat", sum := "b1068b64b8dd76dc22d08ca5ff6c7a48a31b2a826b28c9b87da1636c9b6017dd", func := "parvise/parviselaw05.LeafNth", spec := "leafNth", unfollowed := true, recurses := true, plainKeys := false, apart := false }
def LeafNthSaid : Prop := leafNthRow.holds Tryz.pinned (OpenSpec.ofChange leafNthSpec)

/-- ITS FALSE NEIGHBOUR: 'it returns false'. Refute it at one input. -/
def leafNthWrong : ChangeSpec := { name := "leafNth", fn := fun _ => fun
  | [d1, d2] => { results := [.lit (.bool false)], args := [d1, d2] }
  | _ => none }
def LeafNthWrongFalsely : Prop := leafNthRow.holds Tryz.pinned (OpenSpec.ofChange leafNthWrong)

/-- 'parviselaw05.LeafLess': WHATEVER THE INPUT: true; the input reads as it did. -/
def leafLessSpec : ChangeSpec := { name := "leafLess", fn := fun _ => fun
  | [d1, d2, d3] => { results := [.lit (.bool true)], args := [d1, d2, d3] }
  | _ => none }
def leafLessRow : OpenClaim := { program := "ytdpipdniklognaagreat", sum := "b1068b64b8dd76dc22d08ca5ff6c7a48a31b2a826b28c9b87da1636c9b6017dd", func := "parvise/parviselaw05.LeafLess", spec := "leafLess", unfollowed := true, recurses := true, plainKeys := false, apart := false }
def LeafLessSaid : Prop := leafLessRow.holds Tryz.pinned (OpenSpec.ofChange leafLessSpec)

/-- ITS FALSE NEIGHBOUR: 'it returns false'. Refute it at one input. -/
def leafLessWrong : ChangeSpec := { name := "leafLess", fn := fun _ => fun
  | [d1, d2, d3] => { results := [.lit (.bool false)], args := [d1, d2, d3] }
  | _ => none }
def LeafLessWrongFalsely : Prop := leafLessRow.holds Tryz.pinned (OpenSpec.ofChange leafLessWrong)

/-- 'parviselaw05.LeafEither': WHATEVER THE INPUT: true; the input reads as it did. -/
def leafEitherSpec : ChangeSpec := { name := "leafEither", fn := fun _ => fun
  | [d1, d2, d3] => { results := [.lit (.bool true)], args := [d1, d2, d3] }
  | _ => none }
def leafEitherRow : OpenClaim := { program := "ytdpipdniklognaagreat", sum := "b1068b64b8dd76dc22d08ca5ff6c7a48a31b2a826b28c9b87da1636c9b6017dd", func := "parvise/parviselaw05.LeafEither", spec := "leafEither", unfollowed := true, recurses := true, plainKeys := false, apart := false }
def LeafEitherSaid : Prop := leafEitherRow.holds Tryz.pinned (OpenSpec.ofChange leafEitherSpec)

/-- ITS FALSE NEIGHBOUR: 'it returns false'. Refute it at one input. -/
def leafEitherWrong : ChangeSpec := { name := "leafEither", fn := fun _ => fun
  | [d1, d2, d3] => { results := [.lit (.bool false)], args := [d1, d2, d3] }
  | _ => none }
def LeafEitherWrongFalsely : Prop := leafEitherRow.holds Tryz.pinned (OpenSpec.ofChange leafEitherWrong)

/-- 'parviselaw05.LeafOrders': WHATEVER THE INPUT: true; the input reads as it did. -/
def leafOrdersSpec : ChangeSpec := { name := "leafOrders", fn := fun _ => fun
  | [d1, d2, d3] => { results := [.lit (.bool true)], args := [d1, d2, d3] }
  | _ => none }
def leafOrdersRow : OpenClaim := { program := "ytdpipdniklognaagreat", sum := "b1068b64b8dd76dc22d08ca5ff6c7a48a31b2a826b28c9b87da1636c9b6017dd", func := "parvise/parviselaw05.LeafOrders", spec := "leafOrders", unfollowed := true, recurses := true, plainKeys := false, apart := false }
def LeafOrdersSaid : Prop := leafOrdersRow.holds Tryz.pinned (OpenSpec.ofChange leafOrdersSpec)

/-- ITS FALSE NEIGHBOUR: 'it returns false'. Refute it at one input. -/
def leafOrdersWrong : ChangeSpec := { name := "leafOrders", fn := fun _ => fun
  | [d1, d2, d3] => { results := [.lit (.bool false)], args := [d1, d2, d3] }
  | _ => none }
def LeafOrdersWrongFalsely : Prop := leafOrdersRow.holds Tryz.pinned (OpenSpec.ofChange leafOrdersWrong)

/-- 'parviselaw05.LeafFound': WHATEVER THE INPUT: true; the input reads as it did. -/
def leafFoundSpec : ChangeSpec := { name := "leafFound", fn := fun _ => fun
  | [d1, d2, d3] => { results := [.lit (.bool true)], args := [d1, d2, d3] }
  | _ => none }
def leafFoundRow : OpenClaim := { program := "ytdpipdniklognaagreat", sum := "b1068b64b8dd76dc22d08ca5ff6c7a48a31b2a826b28c9b87da1636c9b6017dd", func := "parvise/parviselaw05.LeafFound", spec := "leafFound", inPlace := ["slices.overlaps[parvise/api.Stray]"], unfollowed := true, recurses := true, plainKeys := false, apart := false }
def LeafFoundSaid : Prop := leafFoundRow.holds Tryz.pinned (OpenSpec.ofChange leafFoundSpec)

/-- ITS FALSE NEIGHBOUR: 'it returns false'. Refute it at one input. -/
def leafFoundWrong : ChangeSpec := { name := "leafFound", fn := fun _ => fun
  | [d1, d2, d3] => { results := [.lit (.bool false)], args := [d1, d2, d3] }
  | _ => none }
def LeafFoundWrongFalsely : Prop := leafFoundRow.holds Tryz.pinned (OpenSpec.ofChange leafFoundWrong)

/-- 'parviselaw05.LeafChecks': WHATEVER THE INPUT: true; the input reads as it did. -/
def leafChecksSpec : ChangeSpec := { name := "leafChecks", fn := fun _ => fun
  | [d1, d2, d3] => { results := [.lit (.bool true)], args := [d1, d2, d3] }
  | _ => none }
def leafChecksRow : OpenClaim := { program := "ytdpipdniklognaagreat", sum := "b1068b64b8dd76dc22d08ca5ff6c7a48a31b2a826b28c9b87da1636c9b6017dd", func := "parvise/parviselaw05.LeafChecks", spec := "leafChecks", inPlace := ["slices.overlaps[parvise/api.Stray]"], unfollowed := true, recurses := true, plainKeys := false, apart := false }
def LeafChecksSaid : Prop := leafChecksRow.holds Tryz.pinned (OpenSpec.ofChange leafChecksSpec)

/-- ITS FALSE NEIGHBOUR: 'it returns false'. Refute it at one input. -/
def leafChecksWrong : ChangeSpec := { name := "leafChecks", fn := fun _ => fun
  | [d1, d2, d3] => { results := [.lit (.bool false)], args := [d1, d2, d3] }
  | _ => none }
def LeafChecksWrongFalsely : Prop := leafChecksRow.holds Tryz.pinned (OpenSpec.ofChange leafChecksWrong)

/- THE SECOND FORM. 'bulk': how many values and letters a reading holds, each counted each time it is reached (what is shared counts as often as it is met; a slice's spare places count too). A statement '..UptoSaid' is the law's where the arguments, and the package variables that the reading takes, are together of bulk at most 1048576: NARROWER than '..Said'. Prove '..Said' where nothing that the law and all that it calls make is longer than what came in: it says more and counts as full. Else prove '..UptoSaid'. A law counts once. -/
mutual
def uptoBulk {H : Type} : DataW H → Nat
  | .lit (.string bytes) => bytes.length + 1
  | .lit _ => 1
  | .nil => 1
  | .ptr d => uptoBulk d + 1
  | .slice elems spare => uptoBulkAll elems + uptoBulkAll spare + 1
  | .agg parts => uptoBulkAll parts + 1
  | .iface _ d => uptoBulk d + 1
  | .map entries => uptoBulkEntries entries + 1
  | .held _ => 1
def uptoBulkAll {H : Type} : List (DataW H) → Nat
  | [] => 0
  | d :: r => uptoBulk d + uptoBulkAll r
def uptoBulkEntries {H : Type} : List (Lit × DataW H) → Nat
  | [] => 0
  | x :: r => uptoBulkEntry x + uptoBulkEntries r
def uptoBulkEntry {H : Type} : Lit × DataW H → Nat
  | (.string bytes, d) => bytes.length + uptoBulk d + 1
  | (_, d) => uptoBulk d + 1
 end
def uptoSmall : (H : Type) → List (DataW H) → Bool := fun _ ds => decide (uptoBulkAll ds ≤ 1048576)
def OpenSpec.upto (s : _root_.Go.ChangeSpec) : _root_.Go.OpenSpec := { _root_.Go.OpenSpec.ofChange s with cond := some uptoSmall }

/-- 'parviselaw05.LeafNeighbours', WHERE WHAT IT READS IS OF BULK AT MOST 1048576: true; the input reads as it did. -/
def leafNeighboursUptoRow : OpenClaim := { program := "ytdpipdniklognaagreat", sum := "b1068b64b8dd76dc22d08ca5ff6c7a48a31b2a826b28c9b87da1636c9b6017dd", func := "parvise/parviselaw05.LeafNeighbours", spec := "leafNeighbours", unfollowed := true, recurses := true, plainKeys := false, apart := false, narrowed := true }
def LeafNeighboursUptoSaid : Prop := leafNeighboursUptoRow.holds Tryz.pinned (OpenSpec.upto leafNeighboursSpec)

/-- 'parviselaw05.LeafConflicts', WHERE WHAT IT READS IS OF BULK AT MOST 1048576: true; the input reads as it did. -/
def leafConflictsUptoRow : OpenClaim := { program := "ytdpipdniklognaagreat", sum := "b1068b64b8dd76dc22d08ca5ff6c7a48a31b2a826b28c9b87da1636c9b6017dd", func := "parvise/parviselaw05.LeafConflicts", spec := "leafConflicts", unfollowed := true, recurses := true, plainKeys := false, apart := false, narrowed := true }
def LeafConflictsUptoSaid : Prop := leafConflictsUptoRow.holds Tryz.pinned (OpenSpec.upto leafConflictsSpec)

/-- 'parviselaw05.LeafTrue', WHERE WHAT IT READS IS OF BULK AT MOST 1048576: true; the input reads as it did. -/
def leafTrueUptoRow : OpenClaim := { program := "ytdpipdniklognaagreat", sum := "b1068b64b8dd76dc22d08ca5ff6c7a48a31b2a826b28c9b87da1636c9b6017dd", func := "parvise/parviselaw05.LeafTrue", spec := "leafTrue", unfollowed := true, recurses := true, plainKeys := false, apart := false, narrowed := true }
def LeafTrueUptoSaid : Prop := leafTrueUptoRow.holds Tryz.pinned (OpenSpec.upto leafTrueSpec)

/-- 'parviselaw05.LeafNth', WHERE WHAT IT READS IS OF BULK AT MOST 1048576: true; the input reads as it did. -/
def leafNthUptoRow : OpenClaim := { program := "ytdpipdniklognaagreat", sum := "b1068b64b8dd76dc22d08ca5ff6c7a48a31b2a826b28c9b87da1636c9b6017dd", func := "parvise/parviselaw05.LeafNth", spec := "leafNth", unfollowed := true, recurses := true, plainKeys := false, apart := false, narrowed := true }
def LeafNthUptoSaid : Prop := leafNthUptoRow.holds Tryz.pinned (OpenSpec.upto leafNthSpec)

/-- 'parviselaw05.LeafLess', WHERE WHAT IT READS IS OF BULK AT MOST 1048576: true; the input reads as it did. -/
def leafLessUptoRow : OpenClaim := { program := "ytdpipdniklognaagreat", sum := "b1068b64b8dd76dc22d08ca5ff6c7a48a31b2a826b28c9b87da1636c9b6017dd", func := "parvise/parviselaw05.LeafLess", spec := "leafLess", unfollowed := true, recurses := true, plainKeys := false, apart := false, narrowed := true }
def LeafLessUptoSaid : Prop := leafLessUptoRow.holds Tryz.pinned (OpenSpec.upto leafLessSpec)

/-- 'parviselaw05.LeafEither', WHERE WHAT IT READS IS OF BULK AT MOST 1048576: true; the input reads as it did. -/
def leafEitherUptoRow : OpenClaim := { program := "ytdpipdniklognaagreat", sum := "b1068b64b8dd76dc22d08ca5ff6c7a48a31b2a826b28c9b87da1636c9b6017dd", func := "parvise/parviselaw05.LeafEither", spec := "leafEither", unfollowed := true, recurses := true, plainKeys := false, apart := false, narrowed := true }
def LeafEitherUptoSaid : Prop := leafEitherUptoRow.holds Tryz.pinned (OpenSpec.upto leafEitherSpec)

/-- 'parviselaw05.LeafOrders', WHERE WHAT IT READS IS OF BULK AT MOST 1048576: true; the input reads as it did. -/
def leafOrdersUptoRow : OpenClaim := { program := "ytdpipdniklognaagreat", sum := "b1068b64b8dd76dc22d08ca5ff6c7a48a31b2a826b28c9b87da1636c9b6017dd", func := "parvise/parviselaw05.LeafOrders", spec := "leafOrders", unfollowed := true, recurses := true, plainKeys := false, apart := false, narrowed := true }
def LeafOrdersUptoSaid : Prop := leafOrdersUptoRow.holds Tryz.pinned (OpenSpec.upto leafOrdersSpec)

/-- 'parviselaw05.LeafFound', WHERE WHAT IT READS IS OF BULK AT MOST 1048576: true; the input reads as it did. -/
def leafFoundUptoRow : OpenClaim := { program := "ytdpipdniklognaagreat", sum := "b1068b64b8dd76dc22d08ca5ff6c7a48a31b2a826b28c9b87da1636c9b6017dd", func := "parvise/parviselaw05.LeafFound", spec := "leafFound", inPlace := ["slices.overlaps[parvise/api.Stray]"], unfollowed := true, recurses := true, plainKeys := false, apart := false, narrowed := true }
def LeafFoundUptoSaid : Prop := leafFoundUptoRow.holds Tryz.pinned (OpenSpec.upto leafFoundSpec)

/-- 'parviselaw05.LeafChecks', WHERE WHAT IT READS IS OF BULK AT MOST 1048576: true; the input reads as it did. -/
def leafChecksUptoRow : OpenClaim := { program := "ytdpipdniklognaagreat", sum := "b1068b64b8dd76dc22d08ca5ff6c7a48a31b2a826b28c9b87da1636c9b6017dd", func := "parvise/parviselaw05.LeafChecks", spec := "leafChecks", inPlace := ["slices.overlaps[parvise/api.Stray]"], unfollowed := true, recurses := true, plainKeys := false, apart := false, narrowed := true }
def LeafChecksUptoSaid : Prop := leafChecksUptoRow.holds Tryz.pinned (OpenSpec.upto leafChecksSpec)

end Rows
end Go.Proofs.YtdpipdniklognaaGreat
