/-
  No cell of these rows narrows 'for every input' (looked for: loops, veiled, ifaces, maps, wideKeys, modest, calm, conditions, laid).
  DERIVED. THE GIVEN ROWS OF THIS SEAT. 3 by the template 'for every input the law returns true; each argument reads behind the call as it read before'; 0 by the template 'total and deterministic' (their statements: YtloaefllpokkaaaTotals.lean).
  GIVEN WITH THE SEED: the statements are not yours to turn. If you find one false, say at which input.
  Laid BY PROGRAM, IN A SANDBOX (cutbox-rows.mjs): the forced cells as the released guide's own fill.sh prints them over the translation dbe6462bab3cce84… (all of the seat's roots in one cut). By AI agents, Wed Nov 11 2026. No macro, syntax, notation, axiom, sorry.
-/
import Derived.Test.YtloaefllpokkaaaChecked
import GoSem.Claim
import GoSem.ClaimJoined
import GoSem.ClaimMapViews
import Derived.JoinedTies
import Derived.KernelRfl
namespace Go.Proofs.Ytloaefllpokkaaa
/- THE CELL 'sum', in the pinned program and in every row, IS THE sha256 OF THE DUMP (.gsa) THAT YtloaefllpokkaaaProg.lean LOADS. Nothing in Lean hashes anything: it is a label: what it is worth is what the hold of that sum in a sandbox is worth. -/
noncomputable def Try.pinned : Pinned := { name := "ytloaefllpokkaaa", sum := "dbe6462bab3cce848cb1a74165f8c941d9e446a60f923526ce494b57ed1d223d", checked := Try.checked }
namespace Rows
def none {H : Type} : Left H := { results := [], args := [] }

/-- 'barleycorntop.TopWalled': WHATEVER THE INPUT: true; the input reads as it did. -/
def topWalledSpec : ChangeSpec := { name := "topWalled", fn := fun _ => fun
  | [d1, d2, d3, d4] => { results := [.lit (.bool true)], args := [d1, d2, d3, d4] }
  | _ => none }
def topWalledRow : OpenClaim := { program := "ytloaefllpokkaaa", sum := "dbe6462bab3cce848cb1a74165f8c941d9e446a60f923526ce494b57ed1d223d", func := "barleycorn/barleycorntop.TopWalled", spec := "topWalled", unfollowed := true, recurses := true, apart := false }
def TopWalledSaid : Prop := topWalledRow.holds Try.pinned (OpenSpec.ofChange topWalledSpec)

/-- ITS FALSE NEIGHBOUR: 'it returns false'. Refute it at one input. -/
def topWalledWrong : ChangeSpec := { name := "topWalled", fn := fun _ => fun
  | [d1, d2, d3, d4] => { results := [.lit (.bool false)], args := [d1, d2, d3, d4] }
  | _ => none }
def TopWalledWrongFalsely : Prop := topWalledRow.holds Try.pinned (OpenSpec.ofChange topWalledWrong)

/-- 'barleycorntop.TopWoven': WHATEVER THE INPUT: true; the input reads as it did. -/
def topWovenSpec : ChangeSpec := { name := "topWoven", fn := fun _ => fun
  | [d1, d2, d3, d4] => { results := [.lit (.bool true)], args := [d1, d2, d3, d4] }
  | _ => none }
def topWovenRow : OpenClaim := { program := "ytloaefllpokkaaa", sum := "dbe6462bab3cce848cb1a74165f8c941d9e446a60f923526ce494b57ed1d223d", func := "barleycorn/barleycorntop.TopWoven", spec := "topWoven", unfollowed := true, recurses := true, apart := false }
def TopWovenSaid : Prop := topWovenRow.holds Try.pinned (OpenSpec.ofChange topWovenSpec)

/-- ITS FALSE NEIGHBOUR: 'it returns false'. Refute it at one input. -/
def topWovenWrong : ChangeSpec := { name := "topWoven", fn := fun _ => fun
  | [d1, d2, d3, d4] => { results := [.lit (.bool false)], args := [d1, d2, d3, d4] }
  | _ => none }
def TopWovenWrongFalsely : Prop := topWovenRow.holds Try.pinned (OpenSpec.ofChange topWovenWrong)

/-- 'barleycorntop.TopMarks': WHATEVER THE INPUT: true; the input reads as it did. -/
def topMarksSpec : ChangeSpec := { name := "topMarks", fn := fun _ => fun
  | [d1, d2, d3, d4, d5] => { results := [.lit (.bool true)], args := [d1, d2, d3, d4, d5] }
  | _ => none }
def topMarksRow : OpenClaim := { program := "ytloaefllpokkaaa", sum := "dbe6462bab3cce848cb1a74165f8c941d9e446a60f923526ce494b57ed1d223d", func := "barleycorn/barleycorntop.TopMarks", spec := "topMarks", unfollowed := true, recurses := true, apart := false }
def TopMarksSaid : Prop := topMarksRow.holds Try.pinned (OpenSpec.ofChange topMarksSpec)

/-- ITS FALSE NEIGHBOUR: 'it returns false'. Refute it at one input. -/
def topMarksWrong : ChangeSpec := { name := "topMarks", fn := fun _ => fun
  | [d1, d2, d3, d4, d5] => { results := [.lit (.bool false)], args := [d1, d2, d3, d4, d5] }
  | _ => none }
def TopMarksWrongFalsely : Prop := topMarksRow.holds Try.pinned (OpenSpec.ofChange topMarksWrong)

/- THE SECOND FORM. 'bulk': how many values and letters a reading holds, each counted each time it is reached (what is shared counts as often as it is met; a slice's spare places count too). A statement '..UptoSaid' is the law's where the arguments, and the package variables that the reading takes, are together of bulk at most 1048576: NARROWER than '..Said'. Prove '..Said' where nothing that the law and all that it calls make is longer than what came in: it says more and counts as full. Else prove '..UptoSaid'. A law counts once. -/
mutual
def uptoBulk {H : Type} : DataW H → Nat
  | .lit (.string bytes) => bytes.length + 1
  | .lit _ => 1
  | .nil => 1
  | .ptr d => uptoBulk d + 1
  | .slice elems spare => uptoBulkAll elems + uptoBulkAll spare + 1
  | .agg parts => uptoBulkAll parts + 1
  | .iface _ d => uptoBulk d + 1
  | .map entries => uptoBulkEntries entries + 1
  | .held _ => 1
def uptoBulkAll {H : Type} : List (DataW H) → Nat
  | [] => 0
  | d :: r => uptoBulk d + uptoBulkAll r
def uptoBulkEntries {H : Type} : List (Lit × DataW H) → Nat
  | [] => 0
  | x :: r => uptoBulkEntry x + uptoBulkEntries r
def uptoBulkEntry {H : Type} : Lit × DataW H → Nat
  | (.string bytes, d) => bytes.length + uptoBulk d + 1
  | (_, d) => uptoBulk d + 1
 end
def uptoSmall : (H : Type) → List (DataW H) → Bool := fun _ ds => decide (uptoBulkAll ds ≤ 1048576)
def OpenSpec.upto (s : _root_.Go.ChangeSpec) : _root_.Go.OpenSpec := { _root_.Go.OpenSpec.ofChange s with cond := some uptoSmall }

/-- 'barleycorntop.TopWalled', WHERE WHAT IT READS IS OF BULK AT MOST 1048576: true; the input reads as it did. -/
def topWalledUptoRow : OpenClaim := { program := "ytloaefllpokkaaa", sum := "dbe6462bab3cce848cb1a74165f8c941d9e446a60f923526ce494b57ed1d223d", func := "barleycorn/barleycorntop.TopWalled", spec := "topWalled", unfollowed := true, recurses := true, apart := false, narrowed := true }
def TopWalledUptoSaid : Prop := topWalledUptoRow.holds Try.pinned (OpenSpec.upto topWalledSpec)

/-- 'barleycorntop.TopWoven', WHERE WHAT IT READS IS OF BULK AT MOST 1048576: true; the input reads as it did. -/
def topWovenUptoRow : OpenClaim := { program := "ytloaefllpokkaaa", sum := "dbe6462bab3cce848cb1a74165f8c941d9e446a60f923526ce494b57ed1d223d", func := "barleycorn/barleycorntop.TopWoven", spec := "topWoven", unfollowed := true, recurses := true, apart := false, narrowed := true }
def TopWovenUptoSaid : Prop := topWovenUptoRow.holds Try.pinned (OpenSpec.upto topWovenSpec)

/-- 'barleycorntop.TopMarks', WHERE WHAT IT READS IS OF BULK AT MOST 1048576: true; the input reads as it did. -/
def topMarksUptoRow : OpenClaim := { program := "ytloaefllpokkaaa", sum := "dbe6462bab3cce848cb1a74165f8c941d9e446a60f923526ce494b57ed1d223d", func := "barleycorn/barleycorntop.TopMarks", spec := "topMarks", unfollowed := true, recurses := true, apart := false, narrowed := true }
def TopMarksUptoSaid : Prop := topMarksUptoRow.holds Try.pinned (OpenSpec.upto topMarksSpec)

end Rows
end Go.Proofs.Ytloaefllpokkaaa
