/-
  No cell of these rows narrows 'for every input' (looked for: loops, veiled, ifaces, maps, wideKeys, modest, calm, conditions, laid).
  DERIVED. THE GIVEN ROWS OF THIS SEAT. 2 by the template 'for every input the law returns true; each argument reads behind the call as it read before'; 0 by the template 'total and deterministic' (their statements: YtbilpbabdgfblaaTotals.lean).
  GIVEN WITH THE SEED: the statements are not yours to turn. If you find one false, say at which input.
  Laid BY PROGRAM, IN A SANDBOX (cutbox-rows.mjs): the forced cells as the released guide's own fill.sh prints them over the translation 0a486c8854abee26… (all of the seat's roots in one cut). By AI agents, Wed Nov 11 2026. No macro, syntax, notation, axiom, sorry.
-/
import Derived.Test.YtbilpbabdgfblaaChecked
import GoSem.Claim
import GoSem.ClaimJoined
import GoSem.ClaimMapViews
import Derived.JoinedTies
import Derived.KernelRfl
namespace Go.Proofs.Ytbilpbabdgfblaa
/- THE CELL 'sum', in the pinned program and in every row, IS THE sha256 OF THE DUMP (.gsa) THAT YtbilpbabdgfblaaProg.lean LOADS. Nothing in Lean hashes anything: it is a label: what it is worth is what the hold of that sum in a sandbox is worth. -/
noncomputable def Try.pinned : Pinned := { name := "ytbilpbabdgfblaa", sum := "0a486c8854abee262ae6f65704f876505c45e62aa1c8925c96d3aaa1c067abd8", checked := Try.checked }
namespace Rows
def none {H : Type} : Left H := { results := [], args := [] }

/-- 'barleycornlaw10.HouseExpert': WHATEVER THE INPUT: true; the input reads as it did. -/
def houseExpertSpec : ChangeSpec := { name := "houseExpert", fn := fun _ => fun
  | [d1, d2, d3] => { results := [.lit (.bool true)], args := [d1, d2, d3] }
  | _ => none }
def houseExpertRow : OpenClaim := { program := "ytbilpbabdgfblaa", sum := "0a486c8854abee262ae6f65704f876505c45e62aa1c8925c96d3aaa1c067abd8", func := "barleycorn/barleycornlaw10.HouseExpert", spec := "houseExpert", unfollowed := true, recurses := true, apart := false }
def HouseExpertSaid : Prop := houseExpertRow.holds Try.pinned (OpenSpec.ofChange houseExpertSpec)

/-- ITS FALSE NEIGHBOUR: 'it returns false'. Refute it at one input. -/
def houseExpertWrong : ChangeSpec := { name := "houseExpert", fn := fun _ => fun
  | [d1, d2, d3] => { results := [.lit (.bool false)], args := [d1, d2, d3] }
  | _ => none }
def HouseExpertWrongFalsely : Prop := houseExpertRow.holds Try.pinned (OpenSpec.ofChange houseExpertWrong)

/-- 'barleycornlaw10.HouseTells': WHATEVER THE INPUT: true; the input reads as it did. -/
def houseTellsSpec : ChangeSpec := { name := "houseTells", fn := fun _ => fun
  | [d1, d2, d3] => { results := [.lit (.bool true)], args := [d1, d2, d3] }
  | _ => none }
def houseTellsRow : OpenClaim := { program := "ytbilpbabdgfblaa", sum := "0a486c8854abee262ae6f65704f876505c45e62aa1c8925c96d3aaa1c067abd8", func := "barleycorn/barleycornlaw10.HouseTells", spec := "houseTells", inPlace := ["slices.overlaps[int]"], unfollowed := true, recurses := true, apart := false }
def HouseTellsSaid : Prop := houseTellsRow.holds Try.pinned (OpenSpec.ofChange houseTellsSpec)

/-- ITS FALSE NEIGHBOUR: 'it returns false'. Refute it at one input. -/
def houseTellsWrong : ChangeSpec := { name := "houseTells", fn := fun _ => fun
  | [d1, d2, d3] => { results := [.lit (.bool false)], args := [d1, d2, d3] }
  | _ => none }
def HouseTellsWrongFalsely : Prop := houseTellsRow.holds Try.pinned (OpenSpec.ofChange houseTellsWrong)

/- THE SECOND FORM. 'bulk': how many values and letters a reading holds, each counted each time it is reached (what is shared counts as often as it is met; a slice's spare places count too). A statement '..UptoSaid' is the law's where the arguments, and the package variables that the reading takes, are together of bulk at most 1048576: NARROWER than '..Said'. Prove '..Said' where nothing that the law and all that it calls make is longer than what came in: it says more and counts as full. Else prove '..UptoSaid'. A law counts once. -/
mutual
def uptoBulk {H : Type} : DataW H → Nat
  | .lit (.string bytes) => bytes.length + 1
  | .lit _ => 1
  | .nil => 1
  | .ptr d => uptoBulk d + 1
  | .slice elems spare => uptoBulkAll elems + uptoBulkAll spare + 1
  | .agg parts => uptoBulkAll parts + 1
  | .iface _ d => uptoBulk d + 1
  | .map entries => uptoBulkEntries entries + 1
  | .held _ => 1
def uptoBulkAll {H : Type} : List (DataW H) → Nat
  | [] => 0
  | d :: r => uptoBulk d + uptoBulkAll r
def uptoBulkEntries {H : Type} : List (Lit × DataW H) → Nat
  | [] => 0
  | x :: r => uptoBulkEntry x + uptoBulkEntries r
def uptoBulkEntry {H : Type} : Lit × DataW H → Nat
  | (.string bytes, d) => bytes.length + uptoBulk d + 1
  | (_, d) => uptoBulk d + 1
 end
def uptoSmall : (H : Type) → List (DataW H) → Bool := fun _ ds => decide (uptoBulkAll ds ≤ 1048576)
def OpenSpec.upto (s : _root_.Go.ChangeSpec) : _root_.Go.OpenSpec := { _root_.Go.OpenSpec.ofChange s with cond := some uptoSmall }

/-- 'barleycornlaw10.HouseExpert', WHERE WHAT IT READS IS OF BULK AT MOST 1048576: true; the input reads as it did. -/
def houseExpertUptoRow : OpenClaim := { program := "ytbilpbabdgfblaa", sum := "0a486c8854abee262ae6f65704f876505c45e62aa1c8925c96d3aaa1c067abd8", func := "barleycorn/barleycornlaw10.HouseExpert", spec := "houseExpert", unfollowed := true, recurses := true, apart := false, narrowed := true }
def HouseExpertUptoSaid : Prop := houseExpertUptoRow.holds Try.pinned (OpenSpec.upto houseExpertSpec)

/-- 'barleycornlaw10.HouseTells', WHERE WHAT IT READS IS OF BULK AT MOST 1048576: true; the input reads as it did. -/
def houseTellsUptoRow : OpenClaim := { program := "ytbilpbabdgfblaa", sum := "0a486c8854abee262ae6f65704f876505c45e62aa1c8925c96d3aaa1c067abd8", func := "barleycorn/barleycornlaw10.HouseTells", spec := "houseTells", inPlace := ["slices.overlaps[int]"], unfollowed := true, recurses := true, apart := false, narrowed := true }
def HouseTellsUptoSaid : Prop := houseTellsUptoRow.holds Try.pinned (OpenSpec.upto houseTellsSpec)

end Rows
end Go.Proofs.Ytbilpbabdgfblaa
