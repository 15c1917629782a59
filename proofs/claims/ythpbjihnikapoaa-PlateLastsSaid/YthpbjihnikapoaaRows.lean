/-
  No cell of these rows narrows 'for every input' (looked for: loops, veiled, ifaces, maps, wideKeys, modest, calm, conditions, laid).
  DERIVED. THE GIVEN ROWS OF THIS SEAT. 13 by the template 'for every input the law returns true; each argument reads behind the call as it read before'; 0 by the template 'total and deterministic' (their statements: YthpbjihnikapoaaTotals.lean).
  GIVEN WITH THE SEED: the statements are not yours to turn. If you find one false, say at which input.
  Laid BY PROGRAM, IN A SANDBOX (cutbox-rows.mjs): the forced cells as the released guide's own fill.sh prints them over the translation 34442bc210ef5fe5… (all of the seat's roots in one cut). By AI agents, Wed Nov 11 2026. No macro, syntax, notation, axiom, sorry.
-/
import Derived.Test.YthpbjihnikapoaaChecked
import GoSem.Claim
import GoSem.ClaimJoined
import GoSem.ClaimMapViews
import Derived.JoinedTies
import Derived.KernelRfl
namespace Go.Proofs.Ythpbjihnikapoaa
/- THE CELL 'sum', in the pinned program and in every row, IS THE sha256 OF THE DUMP (.gsa) THAT YthpbjihnikapoaaProg.lean LOADS. Nothing in Lean hashes anything: it is a label: what it is worth is what the hold of that sum in a sandbox is worth. -/
noncomputable def Try.pinned : Pinned := { name := "ythpbjihnikapoaa", sum := "34442bc210ef5fe56a841d7a54e5cc92664b6f3b5bc52c15c9946ca6c34d5f4e", checked := Try.checked }
namespace Rows
def none {H : Type} : Left H := { results := [], args := [] }

/-- 'barleycornlaw08.PlateRegisters': WHATEVER THE INPUT: true; the input reads as it did. -/
def plateRegistersSpec : ChangeSpec := { name := "plateRegisters", fn := fun _ => fun
  | [d1, d2, d3] => { results := [.lit (.bool true)], args := [d1, d2, d3] }
  | _ => none }
def plateRegistersRow : OpenClaim := { program := "ythpbjihnikapoaa", sum := "34442bc210ef5fe56a841d7a54e5cc92664b6f3b5bc52c15c9946ca6c34d5f4e", func := "barleycorn/barleycornlaw08.PlateRegisters", spec := "plateRegisters", unfollowed := true, recurses := true, apart := false }
def PlateRegistersSaid : Prop := plateRegistersRow.holds Try.pinned (OpenSpec.ofChange plateRegistersSpec)

/-- ITS FALSE NEIGHBOUR: 'it returns false'. Refute it at one input. -/
def plateRegistersWrong : ChangeSpec := { name := "plateRegisters", fn := fun _ => fun
  | [d1, d2, d3] => { results := [.lit (.bool false)], args := [d1, d2, d3] }
  | _ => none }
def PlateRegistersWrongFalsely : Prop := plateRegistersRow.holds Try.pinned (OpenSpec.ofChange plateRegistersWrong)

/-- 'barleycornlaw08.PlateProofs': WHATEVER THE INPUT: true; the input reads as it did. -/
def plateProofsSpec : ChangeSpec := { name := "plateProofs", fn := fun _ => fun
  | [d1, d2, d3, d4, d5] => { results := [.lit (.bool true)], args := [d1, d2, d3, d4, d5] }
  | _ => none }
def plateProofsRow : OpenClaim := { program := "ythpbjihnikapoaa", sum := "34442bc210ef5fe56a841d7a54e5cc92664b6f3b5bc52c15c9946ca6c34d5f4e", func := "barleycorn/barleycornlaw08.PlateProofs", spec := "plateProofs", unfollowed := true, recurses := true, apart := false }
def PlateProofsSaid : Prop := plateProofsRow.holds Try.pinned (OpenSpec.ofChange plateProofsSpec)

/-- ITS FALSE NEIGHBOUR: 'it returns false'. Refute it at one input. -/
def plateProofsWrong : ChangeSpec := { name := "plateProofs", fn := fun _ => fun
  | [d1, d2, d3, d4, d5] => { results := [.lit (.bool false)], args := [d1, d2, d3, d4, d5] }
  | _ => none }
def PlateProofsWrongFalsely : Prop := plateProofsRow.holds Try.pinned (OpenSpec.ofChange plateProofsWrong)

/-- 'barleycornlaw08.PlateTells': WHATEVER THE INPUT: true; the input reads as it did. -/
def plateTellsSpec : ChangeSpec := { name := "plateTells", fn := fun _ => fun
  | [d1, d2] => { results := [.lit (.bool true)], args := [d1, d2] }
  | _ => none }
def plateTellsRow : OpenClaim := { program := "ythpbjihnikapoaa", sum := "34442bc210ef5fe56a841d7a54e5cc92664b6f3b5bc52c15c9946ca6c34d5f4e", func := "barleycorn/barleycornlaw08.PlateTells", spec := "plateTells", inPlace := ["slices.overlaps[int]"], unfollowed := true, recurses := true, apart := false }
def PlateTellsSaid : Prop := plateTellsRow.holds Try.pinned (OpenSpec.ofChange plateTellsSpec)

/-- ITS FALSE NEIGHBOUR: 'it returns false'. Refute it at one input. -/
def plateTellsWrong : ChangeSpec := { name := "plateTells", fn := fun _ => fun
  | [d1, d2] => { results := [.lit (.bool false)], args := [d1, d2] }
  | _ => none }
def PlateTellsWrongFalsely : Prop := plateTellsRow.holds Try.pinned (OpenSpec.ofChange plateTellsWrong)

/-- 'barleycornlaw08.PlateDoes': WHATEVER THE INPUT: true; the input reads as it did. -/
def plateDoesSpec : ChangeSpec := { name := "plateDoes", fn := fun _ => fun
  | [d1, d2] => { results := [.lit (.bool true)], args := [d1, d2] }
  | _ => none }
def plateDoesRow : OpenClaim := { program := "ythpbjihnikapoaa", sum := "34442bc210ef5fe56a841d7a54e5cc92664b6f3b5bc52c15c9946ca6c34d5f4e", func := "barleycorn/barleycornlaw08.PlateDoes", spec := "plateDoes", unfollowed := true, recurses := true, apart := false }
def PlateDoesSaid : Prop := plateDoesRow.holds Try.pinned (OpenSpec.ofChange plateDoesSpec)

/-- ITS FALSE NEIGHBOUR: 'it returns false'. Refute it at one input. -/
def plateDoesWrong : ChangeSpec := { name := "plateDoes", fn := fun _ => fun
  | [d1, d2] => { results := [.lit (.bool false)], args := [d1, d2] }
  | _ => none }
def PlateDoesWrongFalsely : Prop := plateDoesRow.holds Try.pinned (OpenSpec.ofChange plateDoesWrong)

/-- 'barleycornlaw08.PlatePlays': WHATEVER THE INPUT: true; the input reads as it did. -/
def platePlaysSpec : ChangeSpec := { name := "platePlays", fn := fun _ => fun
  | [d1, d2, d3] => { results := [.lit (.bool true)], args := [d1, d2, d3] }
  | _ => none }
def platePlaysRow : OpenClaim := { program := "ythpbjihnikapoaa", sum := "34442bc210ef5fe56a841d7a54e5cc92664b6f3b5bc52c15c9946ca6c34d5f4e", func := "barleycorn/barleycornlaw08.PlatePlays", spec := "platePlays", unfollowed := true, recurses := true, apart := false }
def PlatePlaysSaid : Prop := platePlaysRow.holds Try.pinned (OpenSpec.ofChange platePlaysSpec)

/-- ITS FALSE NEIGHBOUR: 'it returns false'. Refute it at one input. -/
def platePlaysWrong : ChangeSpec := { name := "platePlays", fn := fun _ => fun
  | [d1, d2, d3] => { results := [.lit (.bool false)], args := [d1, d2, d3] }
  | _ => none }
def PlatePlaysWrongFalsely : Prop := platePlaysRow.holds Try.pinned (OpenSpec.ofChange platePlaysWrong)

/-- 'barleycornlaw08.PlateWhere': WHATEVER THE INPUT: true; the input reads as it did. -/
def plateWhereSpec : ChangeSpec := { name := "plateWhere", fn := fun _ => fun
  | [d1, d2, d3, d4] => { results := [.lit (.bool true)], args := [d1, d2, d3, d4] }
  | _ => none }
def plateWhereRow : OpenClaim := { program := "ythpbjihnikapoaa", sum := "34442bc210ef5fe56a841d7a54e5cc92664b6f3b5bc52c15c9946ca6c34d5f4e", func := "barleycorn/barleycornlaw08.PlateWhere", spec := "plateWhere", inPlace := ["slices.overlaps[int]"], unfollowed := true, recurses := true, apart := false }
def PlateWhereSaid : Prop := plateWhereRow.holds Try.pinned (OpenSpec.ofChange plateWhereSpec)

/-- ITS FALSE NEIGHBOUR: 'it returns false'. Refute it at one input. -/
def plateWhereWrong : ChangeSpec := { name := "plateWhere", fn := fun _ => fun
  | [d1, d2, d3, d4] => { results := [.lit (.bool false)], args := [d1, d2, d3, d4] }
  | _ => none }
def PlateWhereWrongFalsely : Prop := plateWhereRow.holds Try.pinned (OpenSpec.ofChange plateWhereWrong)

/-- 'barleycornlaw08.PlateRegister': WHATEVER THE INPUT: true; the input reads as it did. -/
def plateRegisterSpec : ChangeSpec := { name := "plateRegister", fn := fun _ => fun
  | [d1, d2, d3, d4, d5, d6] => { results := [.lit (.bool true)], args := [d1, d2, d3, d4, d5, d6] }
  | _ => none }
def plateRegisterRow : OpenClaim := { program := "ythpbjihnikapoaa", sum := "34442bc210ef5fe56a841d7a54e5cc92664b6f3b5bc52c15c9946ca6c34d5f4e", func := "barleycorn/barleycornlaw08.PlateRegister", spec := "plateRegister", inPlace := ["slices.overlaps[int]"], unfollowed := true, recurses := true, apart := false }
def PlateRegisterSaid : Prop := plateRegisterRow.holds Try.pinned (OpenSpec.ofChange plateRegisterSpec)

/-- ITS FALSE NEIGHBOUR: 'it returns false'. Refute it at one input. -/
def plateRegisterWrong : ChangeSpec := { name := "plateRegister", fn := fun _ => fun
  | [d1, d2, d3, d4, d5, d6] => { results := [.lit (.bool false)], args := [d1, d2, d3, d4, d5, d6] }
  | _ => none }
def PlateRegisterWrongFalsely : Prop := plateRegisterRow.holds Try.pinned (OpenSpec.ofChange plateRegisterWrong)

/-- 'barleycornlaw08.PlateLine': WHATEVER THE INPUT: true; the input reads as it did. -/
def plateLineSpec : ChangeSpec := { name := "plateLine", fn := fun _ => fun
  | [d1, d2] => { results := [.lit (.bool true)], args := [d1, d2] }
  | _ => none }
def plateLineRow : OpenClaim := { program := "ythpbjihnikapoaa", sum := "34442bc210ef5fe56a841d7a54e5cc92664b6f3b5bc52c15c9946ca6c34d5f4e", func := "barleycorn/barleycornlaw08.PlateLine", spec := "plateLine", inPlace := ["slices.overlaps[int]"], unfollowed := true, recurses := true, apart := false }
def PlateLineSaid : Prop := plateLineRow.holds Try.pinned (OpenSpec.ofChange plateLineSpec)

/-- ITS FALSE NEIGHBOUR: 'it returns false'. Refute it at one input. -/
def plateLineWrong : ChangeSpec := { name := "plateLine", fn := fun _ => fun
  | [d1, d2] => { results := [.lit (.bool false)], args := [d1, d2] }
  | _ => none }
def PlateLineWrongFalsely : Prop := plateLineRow.holds Try.pinned (OpenSpec.ofChange plateLineWrong)

/-- 'barleycornlaw08.PlateLasts': WHATEVER THE INPUT: true; the input reads as it did. -/
def plateLastsSpec : ChangeSpec := { name := "plateLasts", fn := fun _ => fun
  | [d1, d2, d3] => { results := [.lit (.bool true)], args := [d1, d2, d3] }
  | _ => none }
def plateLastsRow : OpenClaim := { program := "ythpbjihnikapoaa", sum := "34442bc210ef5fe56a841d7a54e5cc92664b6f3b5bc52c15c9946ca6c34d5f4e", func := "barleycorn/barleycornlaw08.PlateLasts", spec := "plateLasts", inPlace := ["slices.overlaps[int]"], unfollowed := true, recurses := true, apart := false }
def PlateLastsSaid : Prop := plateLastsRow.holds Try.pinned (OpenSpec.ofChange plateLastsSpec)

/-- ITS FALSE NEIGHBOUR: 'it returns false'. Refute it at one input. -/
def plateLastsWrong : ChangeSpec := { name := "plateLasts", fn := fun _ => fun
  | [d1, d2, d3] => { results := [.lit (.bool false)], args := [d1, d2, d3] }
  | _ => none }
def PlateLastsWrongFalsely : Prop := plateLastsRow.holds Try.pinned (OpenSpec.ofChange plateLastsWrong)

/-- 'barleycornlaw08.PlateKept': WHATEVER THE INPUT: true; the input reads as it did. -/
def plateKeptSpec : ChangeSpec := { name := "plateKept", fn := fun _ => fun
  | [d1, d2] => { results := [.lit (.bool true)], args := [d1, d2] }
  | _ => none }
def plateKeptRow : OpenClaim := { program := "ythpbjihnikapoaa", sum := "34442bc210ef5fe56a841d7a54e5cc92664b6f3b5bc52c15c9946ca6c34d5f4e", func := "barleycorn/barleycornlaw08.PlateKept", spec := "plateKept", inPlace := ["slices.overlaps[int]"], unfollowed := true, recurses := true, apart := false }
def PlateKeptSaid : Prop := plateKeptRow.holds Try.pinned (OpenSpec.ofChange plateKeptSpec)

/-- ITS FALSE NEIGHBOUR: 'it returns false'. Refute it at one input. -/
def plateKeptWrong : ChangeSpec := { name := "plateKept", fn := fun _ => fun
  | [d1, d2] => { results := [.lit (.bool false)], args := [d1, d2] }
  | _ => none }
def PlateKeptWrongFalsely : Prop := plateKeptRow.holds Try.pinned (OpenSpec.ofChange plateKeptWrong)

/-- 'barleycornlaw08.PlateCut': WHATEVER THE INPUT: true; the input reads as it did. -/
def plateCutSpec : ChangeSpec := { name := "plateCut", fn := fun _ => fun
  | [d1, d2, d3] => { results := [.lit (.bool true)], args := [d1, d2, d3] }
  | _ => none }
def plateCutRow : OpenClaim := { program := "ythpbjihnikapoaa", sum := "34442bc210ef5fe56a841d7a54e5cc92664b6f3b5bc52c15c9946ca6c34d5f4e", func := "barleycorn/barleycornlaw08.PlateCut", spec := "plateCut", inPlace := ["slices.overlaps[int]"], unfollowed := true, recurses := true, apart := false }
def PlateCutSaid : Prop := plateCutRow.holds Try.pinned (OpenSpec.ofChange plateCutSpec)

/-- ITS FALSE NEIGHBOUR: 'it returns false'. Refute it at one input. -/
def plateCutWrong : ChangeSpec := { name := "plateCut", fn := fun _ => fun
  | [d1, d2, d3] => { results := [.lit (.bool false)], args := [d1, d2, d3] }
  | _ => none }
def PlateCutWrongFalsely : Prop := plateCutRow.holds Try.pinned (OpenSpec.ofChange plateCutWrong)

/-- 'barleycornlaw08.PlateExamples': WHATEVER THE INPUT: true; the input reads as it did. -/
def plateExamplesSpec : ChangeSpec := { name := "plateExamples", fn := fun _ => fun
  | [] => { results := [.lit (.bool true)], args := [] }
  | _ => none }
def plateExamplesRow : OpenClaim := { program := "ythpbjihnikapoaa", sum := "34442bc210ef5fe56a841d7a54e5cc92664b6f3b5bc52c15c9946ca6c34d5f4e", func := "barleycorn/barleycornlaw08.PlateExamples", spec := "plateExamples", inPlace := ["slices.overlaps[int]"], unfollowed := true, recurses := true, apart := false }
def PlateExamplesSaid : Prop := plateExamplesRow.holds Try.pinned (OpenSpec.ofChange plateExamplesSpec)

/-- ITS FALSE NEIGHBOUR: 'it returns false'. Refute it at one input. -/
def plateExamplesWrong : ChangeSpec := { name := "plateExamples", fn := fun _ => fun
  | [] => { results := [.lit (.bool false)], args := [] }
  | _ => none }
def PlateExamplesWrongFalsely : Prop := plateExamplesRow.holds Try.pinned (OpenSpec.ofChange plateExamplesWrong)

/-- 'barleycornlaw08.PlateProof': WHATEVER THE INPUT: true; the input reads as it did. -/
def plateProofSpec : ChangeSpec := { name := "plateProof", fn := fun _ => fun
  | [d1, d2, d3, d4] => { results := [.lit (.bool true)], args := [d1, d2, d3, d4] }
  | _ => none }
def plateProofRow : OpenClaim := { program := "ythpbjihnikapoaa", sum := "34442bc210ef5fe56a841d7a54e5cc92664b6f3b5bc52c15c9946ca6c34d5f4e", func := "barleycorn/barleycornlaw08.PlateProof", spec := "plateProof", inPlace := ["slices.overlaps[int]"], unfollowed := true, recurses := true, apart := false }
def PlateProofSaid : Prop := plateProofRow.holds Try.pinned (OpenSpec.ofChange plateProofSpec)

/-- ITS FALSE NEIGHBOUR: 'it returns false'. Refute it at one input. -/
def plateProofWrong : ChangeSpec := { name := "plateProof", fn := fun _ => fun
  | [d1, d2, d3, d4] => { results := [.lit (.bool false)], args := [d1, d2, d3, d4] }
  | _ => none }
def PlateProofWrongFalsely : Prop := plateProofRow.holds Try.pinned (OpenSpec.ofChange plateProofWrong)

/- THE SECOND FORM. 'bulk': how many values and letters a reading holds, each counted each time it is reached (what is shared counts as often as it is met; a slice's spare places count too). A statement '..UptoSaid' is the law's where the arguments, and the package variables that the reading takes, are together of bulk at most 1048576: NARROWER than '..Said'. Prove '..Said' where nothing that the law and all that it calls make is longer than what came in: it says more and counts as full. Else prove '..UptoSaid'. A law counts once. -/
mutual
def uptoBulk {H : Type} : DataW H → Nat
  | .lit (.string bytes) => bytes.length + 1
  | .lit _ => 1
  | .nil => 1
  | .ptr d => uptoBulk d + 1
  | .slice elems spare => uptoBulkAll elems + uptoBulkAll spare + 1
  | .agg parts => uptoBulkAll parts + 1
  | .iface _ d => uptoBulk d + 1
  | .map entries => uptoBulkEntries entries + 1
  | .held _ => 1
def uptoBulkAll {H : Type} : List (DataW H) → Nat
  | [] => 0
  | d :: r => uptoBulk d + uptoBulkAll r
def uptoBulkEntries {H : Type} : List (Lit × DataW H) → Nat
  | [] => 0
  | x :: r => uptoBulkEntry x + uptoBulkEntries r
def uptoBulkEntry {H : Type} : Lit × DataW H → Nat
  | (.string bytes, d) => bytes.length + uptoBulk d + 1
  | (_, d) => uptoBulk d + 1
 end
def uptoSmall : (H : Type) → List (DataW H) → Bool := fun _ ds => decide (uptoBulkAll ds ≤ 1048576)
def OpenSpec.upto (s : _root_.Go.ChangeSpec) : _root_.Go.OpenSpec := { _root_.Go.OpenSpec.ofChange s with cond := some uptoSmall }

/-- 'barleycornlaw08.PlateRegisters', WHERE WHAT IT READS IS OF BULK AT MOST 1048576: true; the input reads as it did. -/
def plateRegistersUptoRow : OpenClaim := { program := "ythpbjihnikapoaa", sum := "34442bc210ef5fe56a841d7a54e5cc92664b6f3b5bc52c15c9946ca6c34d5f4e", func := "barleycorn/barleycornlaw08.PlateRegisters", spec := "plateRegisters", unfollowed := true, recurses := true, apart := false, narrowed := true }
def PlateRegistersUptoSaid : Prop := plateRegistersUptoRow.holds Try.pinned (OpenSpec.upto plateRegistersSpec)

/-- 'barleycornlaw08.PlateProofs', WHERE WHAT IT READS IS OF BULK AT MOST 1048576: true; the input reads as it did. -/
def plateProofsUptoRow : OpenClaim := { program := "ythpbjihnikapoaa", sum := "34442bc210ef5fe56a841d7a54e5cc92664b6f3b5bc52c15c9946ca6c34d5f4e", func := "barleycorn/barleycornlaw08.PlateProofs", spec := "plateProofs", unfollowed := true, recurses := true, apart := false, narrowed := true }
def PlateProofsUptoSaid : Prop := plateProofsUptoRow.holds Try.pinned (OpenSpec.upto plateProofsSpec)

/-- 'barleycornlaw08.PlateTells', WHERE WHAT IT READS IS OF BULK AT MOST 1048576: true; the input reads as it did. -/
def plateTellsUptoRow : OpenClaim := { program := "ythpbjihnikapoaa", sum := "34442bc210ef5fe56a841d7a54e5cc92664b6f3b5bc52c15c9946ca6c34d5f4e", func := "barleycorn/barleycornlaw08.PlateTells", spec := "plateTells", inPlace := ["slices.overlaps[int]"], unfollowed := true, recurses := true, apart := false, narrowed := true }
def PlateTellsUptoSaid : Prop := plateTellsUptoRow.holds Try.pinned (OpenSpec.upto plateTellsSpec)

/-- 'barleycornlaw08.PlateDoes', WHERE WHAT IT READS IS OF BULK AT MOST 1048576: true; the input reads as it did. -/
def plateDoesUptoRow : OpenClaim := { program := "ythpbjihnikapoaa", sum := "34442bc210ef5fe56a841d7a54e5cc92664b6f3b5bc52c15c9946ca6c34d5f4e", func := "barleycorn/barleycornlaw08.PlateDoes", spec := "plateDoes", unfollowed := true, recurses := true, apart := false, narrowed := true }
def PlateDoesUptoSaid : Prop := plateDoesUptoRow.holds Try.pinned (OpenSpec.upto plateDoesSpec)

/-- 'barleycornlaw08.PlatePlays', WHERE WHAT IT READS IS OF BULK AT MOST 1048576: true; the input reads as it did. -/
def platePlaysUptoRow : OpenClaim := { program := "ythpbjihnikapoaa", sum := "34442bc210ef5fe56a841d7a54e5cc92664b6f3b5bc52c15c9946ca6c34d5f4e", func := "barleycorn/barleycornlaw08.PlatePlays", spec := "platePlays", unfollowed := true, recurses := true, apart := false, narrowed := true }
def PlatePlaysUptoSaid : Prop := platePlaysUptoRow.holds Try.pinned (OpenSpec.upto platePlaysSpec)

/-- 'barleycornlaw08.PlateWhere', WHERE WHAT IT READS IS OF BULK AT MOST 1048576: true; the input reads as it did. -/
def plateWhereUptoRow : OpenClaim := { program := "ythpbjihnikapoaa", sum := "34442bc210ef5fe56a841d7a54e5cc92664b6f3b5bc52c15c9946ca6c34d5f4e", func := "barleycorn/barleycornlaw08.PlateWhere", spec := "plateWhere", inPlace := ["slices.overlaps[int]"], unfollowed := true, recurses := true, apart := false, narrowed := true }
def PlateWhereUptoSaid : Prop := plateWhereUptoRow.holds Try.pinned (OpenSpec.upto plateWhereSpec)

/-- 'barleycornlaw08.PlateRegister', WHERE WHAT IT READS IS OF BULK AT MOST 1048576: true; the input reads as it did. -/
def plateRegisterUptoRow : OpenClaim := { program := "ythpbjihnikapoaa", sum := "34442bc210ef5fe56a841d7a54e5cc92664b6f3b5bc52c15c9946ca6c34d5f4e", func := "barleycorn/barleycornlaw08.PlateRegister", spec := "plateRegister", inPlace := ["slices.overlaps[int]"], unfollowed := true, recurses := true, apart := false, narrowed := true }
def PlateRegisterUptoSaid : Prop := plateRegisterUptoRow.holds Try.pinned (OpenSpec.upto plateRegisterSpec)

/-- 'barleycornlaw08.PlateLine', WHERE WHAT IT READS IS OF BULK AT MOST 1048576: true; the input reads as it did. -/
def plateLineUptoRow : OpenClaim := { program := "ythpbjihnikapoaa", sum := "34442bc210ef5fe56a841d7a54e5cc92664b6f3b5bc52c15c9946ca6c34d5f4e", func := "barleycorn/barleycornlaw08.PlateLine", spec := "plateLine", inPlace := ["slices.overlaps[int]"], unfollowed := true, recurses := true, apart := false, narrowed := true }
def PlateLineUptoSaid : Prop := plateLineUptoRow.holds Try.pinned (OpenSpec.upto plateLineSpec)

/-- 'barleycornlaw08.PlateLasts', WHERE WHAT IT READS IS OF BULK AT MOST 1048576: true; the input reads as it did. -/
def plateLastsUptoRow : OpenClaim := { program := "ythpbjihnikapoaa", sum := "34442bc210ef5fe56a841d7a54e5cc92664b6f3b5bc52c15c9946ca6c34d5f4e", func := "barleycorn/barleycornlaw08.PlateLasts", spec := "plateLasts", inPlace := ["slices.overlaps[int]"], unfollowed := true, recurses := true, apart := false, narrowed := true }
def PlateLastsUptoSaid : Prop := plateLastsUptoRow.holds Try.pinned (OpenSpec.upto plateLastsSpec)

/-- 'barleycornlaw08.PlateKept', WHERE WHAT IT READS IS OF BULK AT MOST 1048576: true; the input reads as it did. -/
def plateKeptUptoRow : OpenClaim := { program := "ythpbjihnikapoaa", sum := "34442bc210ef5fe56a841d7a54e5cc92664b6f3b5bc52c15c9946ca6c34d5f4e", func := "barleycorn/barleycornlaw08.PlateKept", spec := "plateKept", inPlace := ["slices.overlaps[int]"], unfollowed := true, recurses := true, apart := false, narrowed := true }
def PlateKeptUptoSaid : Prop := plateKeptUptoRow.holds Try.pinned (OpenSpec.upto plateKeptSpec)

/-- 'barleycornlaw08.PlateCut', WHERE WHAT IT READS IS OF BULK AT MOST 1048576: true; the input reads as it did. -/
def plateCutUptoRow : OpenClaim := { program := "ythpbjihnikapoaa", sum := "34442bc210ef5fe56a841d7a54e5cc92664b6f3b5bc52c15c9946ca6c34d5f4e", func := "barleycorn/barleycornlaw08.PlateCut", spec := "plateCut", inPlace := ["slices.overlaps[int]"], unfollowed := true, recurses := true, apart := false, narrowed := true }
def PlateCutUptoSaid : Prop := plateCutUptoRow.holds Try.pinned (OpenSpec.upto plateCutSpec)

/-- 'barleycornlaw08.PlateExamples', WHERE WHAT IT READS IS OF BULK AT MOST 1048576: true; the input reads as it did. -/
def plateExamplesUptoRow : OpenClaim := { program := "ythpbjihnikapoaa", sum := "34442bc210ef5fe56a841d7a54e5cc92664b6f3b5bc52c15c9946ca6c34d5f4e", func := "barleycorn/barleycornlaw08.PlateExamples", spec := "plateExamples", inPlace := ["slices.overlaps[int]"], unfollowed := true, recurses := true, apart := false, narrowed := true }
def PlateExamplesUptoSaid : Prop := plateExamplesUptoRow.holds Try.pinned (OpenSpec.upto plateExamplesSpec)

/-- 'barleycornlaw08.PlateProof', WHERE WHAT IT READS IS OF BULK AT MOST 1048576: true; the input reads as it did. -/
def plateProofUptoRow : OpenClaim := { program := "ythpbjihnikapoaa", sum := "34442bc210ef5fe56a841d7a54e5cc92664b6f3b5bc52c15c9946ca6c34d5f4e", func := "barleycorn/barleycornlaw08.PlateProof", spec := "plateProof", inPlace := ["slices.overlaps[int]"], unfollowed := true, recurses := true, apart := false, narrowed := true }
def PlateProofUptoSaid : Prop := plateProofUptoRow.holds Try.pinned (OpenSpec.upto plateProofSpec)

end Rows
end Go.Proofs.Ythpbjihnikapoaa
