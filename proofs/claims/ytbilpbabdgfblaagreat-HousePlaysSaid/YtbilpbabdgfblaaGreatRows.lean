/-
  No cell of these rows narrows 'for every input' (looked for: loops, veiled, ifaces, maps, wideKeys, modest, calm, conditions, laid).
  DERIVED. THE GIVEN ROWS OF THIS SEAT. 10 by the template 'for every input the law returns true; each argument reads behind the call as it read before'; 0 by the template 'total and deterministic' (their statements: YtbilpbabdgfblaaGreatTotals.lean).
  GIVEN WITH THE SEED: the statements are not yours to turn. If you find one false, say at which input.
  Laid BY PROGRAM, IN A SANDBOX (cutbox-rows.mjs): the forced cells as the released guide's own fill.sh prints them over the translation 12f157c1eb39c139… (all of the seat's roots in one cut). By AI agents, Wed Nov 11 2026. No macro, syntax, notation, axiom, sorry.
-/
import Derived.Test.YtbilpbabdgfblaaGreatChecked
import GoSem.Claim
import GoSem.ClaimJoined
import GoSem.ClaimMapViews
import Derived.JoinedTies
import Derived.KernelRfl
namespace Go.Proofs.YtbilpbabdgfblaaGreat
/- THE CELL 'sum', in the pinned program and in every row, IS THE sha256 OF THE DUMP (.gsa) THAT YtbilpbabdgfblaaGreatProg.lean LOADS. Nothing in Lean hashes anything: it is a label: what it is worth is what the hold of that sum in a sandbox is worth. -/
noncomputable def Tryz.pinned : Pinned := { name := "ytbilpbabdgfblaagreat", sum := "12f157c1eb39c1390fc6041907572f1ee00288f2e8db1acfc3c95281140a5dac", checked := Tryz.checked }
namespace Rows
def none {H : Type} : Left H := { results := [], args := [] }

/-- 'barleycornlaw10.HousePlays': WHATEVER THE INPUT: true; the input reads as it did. -/
def housePlaysSpec : ChangeSpec := { name := "housePlays", fn := fun _ => fun
  | [d1, d2, d3] => { results := [.lit (.bool true)], args := [d1, d2, d3] }
  | _ => none }
def housePlaysRow : OpenClaim := { program := "ytbilpbabdgfblaagreat", sum := "12f157c1eb39c1390fc6041907572f1ee00288f2e8db1acfc3c95281140a5dac", func := "barleycorn/barleycornlaw10.HousePlays", spec := "housePlays", unfollowed := true, recurses := true, plainKeys := false, apart := false }
def HousePlaysSaid : Prop := housePlaysRow.holds Tryz.pinned (OpenSpec.ofChange housePlaysSpec)

/-- ITS FALSE NEIGHBOUR: 'it returns false'. Refute it at one input. -/
def housePlaysWrong : ChangeSpec := { name := "housePlays", fn := fun _ => fun
  | [d1, d2, d3] => { results := [.lit (.bool false)], args := [d1, d2, d3] }
  | _ => none }
def HousePlaysWrongFalsely : Prop := housePlaysRow.holds Tryz.pinned (OpenSpec.ofChange housePlaysWrong)

/-- 'barleycornlaw10.HouseDoes': WHATEVER THE INPUT: true; the input reads as it did. -/
def houseDoesSpec : ChangeSpec := { name := "houseDoes", fn := fun _ => fun
  | [d1, d2] => { results := [.lit (.bool true)], args := [d1, d2] }
  | _ => none }
def houseDoesRow : OpenClaim := { program := "ytbilpbabdgfblaagreat", sum := "12f157c1eb39c1390fc6041907572f1ee00288f2e8db1acfc3c95281140a5dac", func := "barleycorn/barleycornlaw10.HouseDoes", spec := "houseDoes", unfollowed := true, recurses := true, plainKeys := false, apart := false }
def HouseDoesSaid : Prop := houseDoesRow.holds Tryz.pinned (OpenSpec.ofChange houseDoesSpec)

/-- ITS FALSE NEIGHBOUR: 'it returns false'. Refute it at one input. -/
def houseDoesWrong : ChangeSpec := { name := "houseDoes", fn := fun _ => fun
  | [d1, d2] => { results := [.lit (.bool false)], args := [d1, d2] }
  | _ => none }
def HouseDoesWrongFalsely : Prop := houseDoesRow.holds Tryz.pinned (OpenSpec.ofChange houseDoesWrong)

/-- 'barleycornlaw10.HouseLicensed': WHATEVER THE INPUT: true; the input reads as it did. -/
def houseLicensedSpec : ChangeSpec := { name := "houseLicensed", fn := fun _ => fun
  | [d1, d2, d3] => { results := [.lit (.bool true)], args := [d1, d2, d3] }
  | _ => none }
def houseLicensedRow : OpenClaim := { program := "ytbilpbabdgfblaagreat", sum := "12f157c1eb39c1390fc6041907572f1ee00288f2e8db1acfc3c95281140a5dac", func := "barleycorn/barleycornlaw10.HouseLicensed", spec := "houseLicensed", inPlace := ["slices.overlaps[int]"], unfollowed := true, recurses := true, plainKeys := false, apart := false }
def HouseLicensedSaid : Prop := houseLicensedRow.holds Tryz.pinned (OpenSpec.ofChange houseLicensedSpec)

/-- ITS FALSE NEIGHBOUR: 'it returns false'. Refute it at one input. -/
def houseLicensedWrong : ChangeSpec := { name := "houseLicensed", fn := fun _ => fun
  | [d1, d2, d3] => { results := [.lit (.bool false)], args := [d1, d2, d3] }
  | _ => none }
def HouseLicensedWrongFalsely : Prop := houseLicensedRow.holds Tryz.pinned (OpenSpec.ofChange houseLicensedWrong)

/-- 'barleycornlaw10.HouseGenuine': WHATEVER THE INPUT: true; the input reads as it did. -/
def houseGenuineSpec : ChangeSpec := { name := "houseGenuine", fn := fun _ => fun
  | [d1, d2, d3, d4] => { results := [.lit (.bool true)], args := [d1, d2, d3, d4] }
  | _ => none }
def houseGenuineRow : OpenClaim := { program := "ytbilpbabdgfblaagreat", sum := "12f157c1eb39c1390fc6041907572f1ee00288f2e8db1acfc3c95281140a5dac", func := "barleycorn/barleycornlaw10.HouseGenuine", spec := "houseGenuine", inPlace := ["slices.overlaps[int]"], unfollowed := true, recurses := true, plainKeys := false, apart := false }
def HouseGenuineSaid : Prop := houseGenuineRow.holds Tryz.pinned (OpenSpec.ofChange houseGenuineSpec)

/-- ITS FALSE NEIGHBOUR: 'it returns false'. Refute it at one input. -/
def houseGenuineWrong : ChangeSpec := { name := "houseGenuine", fn := fun _ => fun
  | [d1, d2, d3, d4] => { results := [.lit (.bool false)], args := [d1, d2, d3, d4] }
  | _ => none }
def HouseGenuineWrongFalsely : Prop := houseGenuineRow.holds Tryz.pinned (OpenSpec.ofChange houseGenuineWrong)

/-- 'barleycornlaw10.HouseForged': WHATEVER THE INPUT: true; the input reads as it did. -/
def houseForgedSpec : ChangeSpec := { name := "houseForged", fn := fun _ => fun
  | [d1, d2, d3, d4] => { results := [.lit (.bool true)], args := [d1, d2, d3, d4] }
  | _ => none }
def houseForgedRow : OpenClaim := { program := "ytbilpbabdgfblaagreat", sum := "12f157c1eb39c1390fc6041907572f1ee00288f2e8db1acfc3c95281140a5dac", func := "barleycorn/barleycornlaw10.HouseForged", spec := "houseForged", inPlace := ["slices.overlaps[int]"], unfollowed := true, recurses := true, plainKeys := false, apart := false }
def HouseForgedSaid : Prop := houseForgedRow.holds Tryz.pinned (OpenSpec.ofChange houseForgedSpec)

/-- ITS FALSE NEIGHBOUR: 'it returns false'. Refute it at one input. -/
def houseForgedWrong : ChangeSpec := { name := "houseForged", fn := fun _ => fun
  | [d1, d2, d3, d4] => { results := [.lit (.bool false)], args := [d1, d2, d3, d4] }
  | _ => none }
def HouseForgedWrongFalsely : Prop := houseForgedRow.holds Tryz.pinned (OpenSpec.ofChange houseForgedWrong)

/-- 'barleycornlaw10.HouseTraced': WHATEVER THE INPUT: true; the input reads as it did. -/
def houseTracedSpec : ChangeSpec := { name := "houseTraced", fn := fun _ => fun
  | [d1, d2] => { results := [.lit (.bool true)], args := [d1, d2] }
  | _ => none }
def houseTracedRow : OpenClaim := { program := "ytbilpbabdgfblaagreat", sum := "12f157c1eb39c1390fc6041907572f1ee00288f2e8db1acfc3c95281140a5dac", func := "barleycorn/barleycornlaw10.HouseTraced", spec := "houseTraced", inPlace := ["slices.overlaps[int]"], unfollowed := true, recurses := true, plainKeys := false, apart := false }
def HouseTracedSaid : Prop := houseTracedRow.holds Tryz.pinned (OpenSpec.ofChange houseTracedSpec)

/-- ITS FALSE NEIGHBOUR: 'it returns false'. Refute it at one input. -/
def houseTracedWrong : ChangeSpec := { name := "houseTraced", fn := fun _ => fun
  | [d1, d2] => { results := [.lit (.bool false)], args := [d1, d2] }
  | _ => none }
def HouseTracedWrongFalsely : Prop := houseTracedRow.holds Tryz.pinned (OpenSpec.ofChange houseTracedWrong)

/-- 'barleycornlaw10.HouseExamples': WHATEVER THE INPUT: true; the input reads as it did. -/
def houseExamplesSpec : ChangeSpec := { name := "houseExamples", fn := fun _ => fun
  | [] => { results := [.lit (.bool true)], args := [] }
  | _ => none }
def houseExamplesRow : OpenClaim := { program := "ytbilpbabdgfblaagreat", sum := "12f157c1eb39c1390fc6041907572f1ee00288f2e8db1acfc3c95281140a5dac", func := "barleycorn/barleycornlaw10.HouseExamples", spec := "houseExamples", inPlace := ["slices.overlaps[int]"], unfollowed := true, recurses := true, plainKeys := false, apart := false }
def HouseExamplesSaid : Prop := houseExamplesRow.holds Tryz.pinned (OpenSpec.ofChange houseExamplesSpec)

/-- ITS FALSE NEIGHBOUR: 'it returns false'. Refute it at one input. -/
def houseExamplesWrong : ChangeSpec := { name := "houseExamples", fn := fun _ => fun
  | [] => { results := [.lit (.bool false)], args := [] }
  | _ => none }
def HouseExamplesWrongFalsely : Prop := houseExamplesRow.holds Tryz.pinned (OpenSpec.ofChange houseExamplesWrong)

/-- 'barleycornlaw10.HouseKept': WHATEVER THE INPUT: true; the input reads as it did. -/
def houseKeptSpec : ChangeSpec := { name := "houseKept", fn := fun _ => fun
  | [d1, d2] => { results := [.lit (.bool true)], args := [d1, d2] }
  | _ => none }
def houseKeptRow : OpenClaim := { program := "ytbilpbabdgfblaagreat", sum := "12f157c1eb39c1390fc6041907572f1ee00288f2e8db1acfc3c95281140a5dac", func := "barleycorn/barleycornlaw10.HouseKept", spec := "houseKept", inPlace := ["slices.overlaps[int]"], unfollowed := true, recurses := true, plainKeys := false, apart := false }
def HouseKeptSaid : Prop := houseKeptRow.holds Tryz.pinned (OpenSpec.ofChange houseKeptSpec)

/-- ITS FALSE NEIGHBOUR: 'it returns false'. Refute it at one input. -/
def houseKeptWrong : ChangeSpec := { name := "houseKept", fn := fun _ => fun
  | [d1, d2] => { results := [.lit (.bool false)], args := [d1, d2] }
  | _ => none }
def HouseKeptWrongFalsely : Prop := houseKeptRow.holds Tryz.pinned (OpenSpec.ofChange houseKeptWrong)

/-- 'barleycornlaw10.HouseCut': WHATEVER THE INPUT: true; the input reads as it did. -/
def houseCutSpec : ChangeSpec := { name := "houseCut", fn := fun _ => fun
  | [d1, d2, d3, d4] => { results := [.lit (.bool true)], args := [d1, d2, d3, d4] }
  | _ => none }
def houseCutRow : OpenClaim := { program := "ytbilpbabdgfblaagreat", sum := "12f157c1eb39c1390fc6041907572f1ee00288f2e8db1acfc3c95281140a5dac", func := "barleycorn/barleycornlaw10.HouseCut", spec := "houseCut", inPlace := ["slices.overlaps[int]"], unfollowed := true, recurses := true, plainKeys := false, apart := false }
def HouseCutSaid : Prop := houseCutRow.holds Tryz.pinned (OpenSpec.ofChange houseCutSpec)

/-- ITS FALSE NEIGHBOUR: 'it returns false'. Refute it at one input. -/
def houseCutWrong : ChangeSpec := { name := "houseCut", fn := fun _ => fun
  | [d1, d2, d3, d4] => { results := [.lit (.bool false)], args := [d1, d2, d3, d4] }
  | _ => none }
def HouseCutWrongFalsely : Prop := houseCutRow.holds Tryz.pinned (OpenSpec.ofChange houseCutWrong)

/-- 'barleycornlaw10.HouseSpelled': WHATEVER THE INPUT: true; the input reads as it did. -/
def houseSpelledSpec : ChangeSpec := { name := "houseSpelled", fn := fun _ => fun
  | [d1, d2, d3, d4] => { results := [.lit (.bool true)], args := [d1, d2, d3, d4] }
  | _ => none }
def houseSpelledRow : OpenClaim := { program := "ytbilpbabdgfblaagreat", sum := "12f157c1eb39c1390fc6041907572f1ee00288f2e8db1acfc3c95281140a5dac", func := "barleycorn/barleycornlaw10.HouseSpelled", spec := "houseSpelled", inPlace := ["slices.overlaps[int]"], unfollowed := true, recurses := true, plainKeys := false, apart := false }
def HouseSpelledSaid : Prop := houseSpelledRow.holds Tryz.pinned (OpenSpec.ofChange houseSpelledSpec)

/-- ITS FALSE NEIGHBOUR: 'it returns false'. Refute it at one input. -/
def houseSpelledWrong : ChangeSpec := { name := "houseSpelled", fn := fun _ => fun
  | [d1, d2, d3, d4] => { results := [.lit (.bool false)], args := [d1, d2, d3, d4] }
  | _ => none }
def HouseSpelledWrongFalsely : Prop := houseSpelledRow.holds Tryz.pinned (OpenSpec.ofChange houseSpelledWrong)

/- THE SECOND FORM. 'bulk': how many values and letters a reading holds, each counted each time it is reached (what is shared counts as often as it is met; a slice's spare places count too). A statement '..UptoSaid' is the law's where the arguments, and the package variables that the reading takes, are together of bulk at most 1048576: NARROWER than '..Said'. Prove '..Said' where nothing that the law and all that it calls make is longer than what came in: it says more and counts as full. Else prove '..UptoSaid'. A law counts once. -/
mutual
def uptoBulk {H : Type} : DataW H → Nat
  | .lit (.string bytes) => bytes.length + 1
  | .lit _ => 1
  | .nil => 1
  | .ptr d => uptoBulk d + 1
  | .slice elems spare => uptoBulkAll elems + uptoBulkAll spare + 1
  | .agg parts => uptoBulkAll parts + 1
  | .iface _ d => uptoBulk d + 1
  | .map entries => uptoBulkEntries entries + 1
  | .held _ => 1
def uptoBulkAll {H : Type} : List (DataW H) → Nat
  | [] => 0
  | d :: r => uptoBulk d + uptoBulkAll r
def uptoBulkEntries {H : Type} : List (Lit × DataW H) → Nat
  | [] => 0
  | x :: r => uptoBulkEntry x + uptoBulkEntries r
def uptoBulkEntry {H : Type} : Lit × DataW H → Nat
  | (.string bytes, d) => bytes.length + uptoBulk d + 1
  | (_, d) => uptoBulk d + 1
 end
def uptoSmall : (H : Type) → List (DataW H) → Bool := fun _ ds => decide (uptoBulkAll ds ≤ 1048576)
def OpenSpec.upto (s : _root_.Go.ChangeSpec) : _root_.Go.OpenSpec := { _root_.Go.OpenSpec.ofChange s with cond := some uptoSmall }

/-- 'barleycornlaw10.HousePlays', WHERE WHAT IT READS IS OF BULK AT MOST 1048576: true; the input reads as it did. -/
def housePlaysUptoRow : OpenClaim := { program := "ytbilpbabdgfblaagreat", sum := "12f157c1eb39c1390fc6041907572f1ee00288f2e8db1acfc3c95281140a5dac", func := "barleycorn/barleycornlaw10.HousePlays", spec := "housePlays", unfollowed := true, recurses := true, plainKeys := false, apart := false, narrowed := true }
def HousePlaysUptoSaid : Prop := housePlaysUptoRow.holds Tryz.pinned (OpenSpec.upto housePlaysSpec)

/-- 'barleycornlaw10.HouseDoes', WHERE WHAT IT READS IS OF BULK AT MOST 1048576: true; the input reads as it did. -/
def houseDoesUptoRow : OpenClaim := { program := "ytbilpbabdgfblaagreat", sum := "12f157c1eb39c1390fc6041907572f1ee00288f2e8db1acfc3c95281140a5dac", func := "barleycorn/barleycornlaw10.HouseDoes", spec := "houseDoes", unfollowed := true, recurses := true, plainKeys := false, apart := false, narrowed := true }
def HouseDoesUptoSaid : Prop := houseDoesUptoRow.holds Tryz.pinned (OpenSpec.upto houseDoesSpec)

/-- 'barleycornlaw10.HouseLicensed', WHERE WHAT IT READS IS OF BULK AT MOST 1048576: true; the input reads as it did. -/
def houseLicensedUptoRow : OpenClaim := { program := "ytbilpbabdgfblaagreat", sum := "12f157c1eb39c1390fc6041907572f1ee00288f2e8db1acfc3c95281140a5dac", func := "barleycorn/barleycornlaw10.HouseLicensed", spec := "houseLicensed", inPlace := ["slices.overlaps[int]"], unfollowed := true, recurses := true, plainKeys := false, apart := false, narrowed := true }
def HouseLicensedUptoSaid : Prop := houseLicensedUptoRow.holds Tryz.pinned (OpenSpec.upto houseLicensedSpec)

/-- 'barleycornlaw10.HouseGenuine', WHERE WHAT IT READS IS OF BULK AT MOST 1048576: true; the input reads as it did. -/
def houseGenuineUptoRow : OpenClaim := { program := "ytbilpbabdgfblaagreat", sum := "12f157c1eb39c1390fc6041907572f1ee00288f2e8db1acfc3c95281140a5dac", func := "barleycorn/barleycornlaw10.HouseGenuine", spec := "houseGenuine", inPlace := ["slices.overlaps[int]"], unfollowed := true, recurses := true, plainKeys := false, apart := false, narrowed := true }
def HouseGenuineUptoSaid : Prop := houseGenuineUptoRow.holds Tryz.pinned (OpenSpec.upto houseGenuineSpec)

/-- 'barleycornlaw10.HouseForged', WHERE WHAT IT READS IS OF BULK AT MOST 1048576: true; the input reads as it did. -/
def houseForgedUptoRow : OpenClaim := { program := "ytbilpbabdgfblaagreat", sum := "12f157c1eb39c1390fc6041907572f1ee00288f2e8db1acfc3c95281140a5dac", func := "barleycorn/barleycornlaw10.HouseForged", spec := "houseForged", inPlace := ["slices.overlaps[int]"], unfollowed := true, recurses := true, plainKeys := false, apart := false, narrowed := true }
def HouseForgedUptoSaid : Prop := houseForgedUptoRow.holds Tryz.pinned (OpenSpec.upto houseForgedSpec)

/-- 'barleycornlaw10.HouseTraced', WHERE WHAT IT READS IS OF BULK AT MOST 1048576: true; the input reads as it did. -/
def houseTracedUptoRow : OpenClaim := { program := "ytbilpbabdgfblaagreat", sum := "12f157c1eb39c1390fc6041907572f1ee00288f2e8db1acfc3c95281140a5dac", func := "barleycorn/barleycornlaw10.HouseTraced", spec := "houseTraced", inPlace := ["slices.overlaps[int]"], unfollowed := true, recurses := true, plainKeys := false, apart := false, narrowed := true }
def HouseTracedUptoSaid : Prop := houseTracedUptoRow.holds Tryz.pinned (OpenSpec.upto houseTracedSpec)

/-- 'barleycornlaw10.HouseExamples', WHERE WHAT IT READS IS OF BULK AT MOST 1048576: true; the input reads as it did. -/
def houseExamplesUptoRow : OpenClaim := { program := "ytbilpbabdgfblaagreat", sum := "12f157c1eb39c1390fc6041907572f1ee00288f2e8db1acfc3c95281140a5dac", func := "barleycorn/barleycornlaw10.HouseExamples", spec := "houseExamples", inPlace := ["slices.overlaps[int]"], unfollowed := true, recurses := true, plainKeys := false, apart := false, narrowed := true }
def HouseExamplesUptoSaid : Prop := houseExamplesUptoRow.holds Tryz.pinned (OpenSpec.upto houseExamplesSpec)

/-- 'barleycornlaw10.HouseKept', WHERE WHAT IT READS IS OF BULK AT MOST 1048576: true; the input reads as it did. -/
def houseKeptUptoRow : OpenClaim := { program := "ytbilpbabdgfblaagreat", sum := "12f157c1eb39c1390fc6041907572f1ee00288f2e8db1acfc3c95281140a5dac", func := "barleycorn/barleycornlaw10.HouseKept", spec := "houseKept", inPlace := ["slices.overlaps[int]"], unfollowed := true, recurses := true, plainKeys := false, apart := false, narrowed := true }
def HouseKeptUptoSaid : Prop := houseKeptUptoRow.holds Tryz.pinned (OpenSpec.upto houseKeptSpec)

/-- 'barleycornlaw10.HouseCut', WHERE WHAT IT READS IS OF BULK AT MOST 1048576: true; the input reads as it did. -/
def houseCutUptoRow : OpenClaim := { program := "ytbilpbabdgfblaagreat", sum := "12f157c1eb39c1390fc6041907572f1ee00288f2e8db1acfc3c95281140a5dac", func := "barleycorn/barleycornlaw10.HouseCut", spec := "houseCut", inPlace := ["slices.overlaps[int]"], unfollowed := true, recurses := true, plainKeys := false, apart := false, narrowed := true }
def HouseCutUptoSaid : Prop := houseCutUptoRow.holds Tryz.pinned (OpenSpec.upto houseCutSpec)

/-- 'barleycornlaw10.HouseSpelled', WHERE WHAT IT READS IS OF BULK AT MOST 1048576: true; the input reads as it did. -/
def houseSpelledUptoRow : OpenClaim := { program := "ytbilpbabdgfblaagreat", sum := "12f157c1eb39c1390fc6041907572f1ee00288f2e8db1acfc3c95281140a5dac", func := "barleycorn/barleycornlaw10.HouseSpelled", spec := "houseSpelled", inPlace := ["slices.overlaps[int]"], unfollowed := true, recurses := true, plainKeys := false, apart := false, narrowed := true }
def HouseSpelledUptoSaid : Prop := houseSpelledUptoRow.holds Tryz.pinned (OpenSpec.upto houseSpelledSpec)

end Rows
end Go.Proofs.YtbilpbabdgfblaaGreat
