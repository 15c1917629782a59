/-
  No cell of these rows narrows 'for every input' (looked for: loops, veiled, ifaces, maps, wideKeys, modest, calm, conditions, laid).
  DERIVED. THE GIVEN ROWS OF THIS SEAT. 14 by the template 'for every input the law returns true; each argument reads behind the call as it read before'; 0 by the template 'total and deterministic' (their statements: YtccidiflnmchiaaTotals.lean).
  GIVEN WITH THE SEED: the statements are not yours to turn. If you find one false, say at which input.
  Laid BY PROGRAM, IN A SANDBOX (cutbox-rows.mjs): the forced cells as the released guide's own fill.sh prints them over the translation ad83bbc64f1e5d06… (all of the seat's roots in one cut). By AI agents, Wed Nov 11 2026. No macro, syntax, notation, axiom, sorry.
-/
import Derived.Test.YtccidiflnmchiaaChecked
import GoSem.Claim
import GoSem.ClaimJoined
import GoSem.ClaimMapViews
import Derived.JoinedTies
import Derived.KernelRfl
namespace Go.Proofs.Ytccidiflnmchiaa
/- THE CELL 'sum', in the pinned program and in every row, IS THE sha256 OF THE DUMP (.gsa) THAT YtccidiflnmchiaaProg.lean LOADS. Nothing in Lean hashes anything: it is a label: what it is worth is what the hold of that sum in a sandbox is worth. -/
noncomputable def Try.pinned : Pinned := { name := "ytccidiflnmchiaa", sum := "ad83bbc64f1e5d066cf124d08b77ffd359bd34309a9eeac5d1964af8b4ab4f8e", checked := Try.checked }
namespace Rows
def none {H : Type} : Left H := { results := [], args := [] }

/-- 'barleycornlaw07.LatheEven': WHATEVER THE INPUT: true; the input reads as it did. -/
def latheEvenSpec : ChangeSpec := { name := "latheEven", fn := fun _ => fun
  | [d1, d2, d3, d4] => { results := [.lit (.bool true)], args := [d1, d2, d3, d4] }
  | _ => none }
def latheEvenRow : OpenClaim := { program := "ytccidiflnmchiaa", sum := "ad83bbc64f1e5d066cf124d08b77ffd359bd34309a9eeac5d1964af8b4ab4f8e", func := "barleycorn/barleycornlaw07.LatheEven", spec := "latheEven", apart := false }
def LatheEvenSaid : Prop := latheEvenRow.holds Try.pinned (OpenSpec.ofChange latheEvenSpec)

/-- ITS FALSE NEIGHBOUR: 'it returns false'. Refute it at one input. -/
def latheEvenWrong : ChangeSpec := { name := "latheEven", fn := fun _ => fun
  | [d1, d2, d3, d4] => { results := [.lit (.bool false)], args := [d1, d2, d3, d4] }
  | _ => none }
def LatheEvenWrongFalsely : Prop := latheEvenRow.holds Try.pinned (OpenSpec.ofChange latheEvenWrong)

/-- 'barleycornlaw07.LatheBands': WHATEVER THE INPUT: true; the input reads as it did. -/
def latheBandsSpec : ChangeSpec := { name := "latheBands", fn := fun _ => fun
  | [d1, d2] => { results := [.lit (.bool true)], args := [d1, d2] }
  | _ => none }
def latheBandsRow : OpenClaim := { program := "ytccidiflnmchiaa", sum := "ad83bbc64f1e5d066cf124d08b77ffd359bd34309a9eeac5d1964af8b4ab4f8e", func := "barleycorn/barleycornlaw07.LatheBands", spec := "latheBands", unfollowed := true, recurses := true, apart := false }
def LatheBandsSaid : Prop := latheBandsRow.holds Try.pinned (OpenSpec.ofChange latheBandsSpec)

/-- ITS FALSE NEIGHBOUR: 'it returns false'. Refute it at one input. -/
def latheBandsWrong : ChangeSpec := { name := "latheBands", fn := fun _ => fun
  | [d1, d2] => { results := [.lit (.bool false)], args := [d1, d2] }
  | _ => none }
def LatheBandsWrongFalsely : Prop := latheBandsRow.holds Try.pinned (OpenSpec.ofChange latheBandsWrong)

/-- 'barleycornlaw07.LatheWords': WHATEVER THE INPUT: true; the input reads as it did. -/
def latheWordsSpec : ChangeSpec := { name := "latheWords", fn := fun _ => fun
  | [d1, d2, d3, d4, d5, d6] => { results := [.lit (.bool true)], args := [d1, d2, d3, d4, d5, d6] }
  | _ => none }
def latheWordsRow : OpenClaim := { program := "ytccidiflnmchiaa", sum := "ad83bbc64f1e5d066cf124d08b77ffd359bd34309a9eeac5d1964af8b4ab4f8e", func := "barleycorn/barleycornlaw07.LatheWords", spec := "latheWords", unfollowed := true, recurses := true, apart := false }
def LatheWordsSaid : Prop := latheWordsRow.holds Try.pinned (OpenSpec.ofChange latheWordsSpec)

/-- ITS FALSE NEIGHBOUR: 'it returns false'. Refute it at one input. -/
def latheWordsWrong : ChangeSpec := { name := "latheWords", fn := fun _ => fun
  | [d1, d2, d3, d4, d5, d6] => { results := [.lit (.bool false)], args := [d1, d2, d3, d4, d5, d6] }
  | _ => none }
def LatheWordsWrongFalsely : Prop := latheWordsRow.holds Try.pinned (OpenSpec.ofChange latheWordsWrong)

/-- 'barleycornlaw07.LatheSees': WHATEVER THE INPUT: true; the input reads as it did. -/
def latheSeesSpec : ChangeSpec := { name := "latheSees", fn := fun _ => fun
  | [d1, d2, d3, d4] => { results := [.lit (.bool true)], args := [d1, d2, d3, d4] }
  | _ => none }
def latheSeesRow : OpenClaim := { program := "ytccidiflnmchiaa", sum := "ad83bbc64f1e5d066cf124d08b77ffd359bd34309a9eeac5d1964af8b4ab4f8e", func := "barleycorn/barleycornlaw07.LatheSees", spec := "latheSees", unfollowed := true, recurses := true, apart := false }
def LatheSeesSaid : Prop := latheSeesRow.holds Try.pinned (OpenSpec.ofChange latheSeesSpec)

/-- ITS FALSE NEIGHBOUR: 'it returns false'. Refute it at one input. -/
def latheSeesWrong : ChangeSpec := { name := "latheSees", fn := fun _ => fun
  | [d1, d2, d3, d4] => { results := [.lit (.bool false)], args := [d1, d2, d3, d4] }
  | _ => none }
def LatheSeesWrongFalsely : Prop := latheSeesRow.holds Try.pinned (OpenSpec.ofChange latheSeesWrong)

/-- 'barleycornlaw07.LatheDraws': WHATEVER THE INPUT: true; the input reads as it did. -/
def latheDrawsSpec : ChangeSpec := { name := "latheDraws", fn := fun _ => fun
  | [d1, d2, d3, d4] => { results := [.lit (.bool true)], args := [d1, d2, d3, d4] }
  | _ => none }
def latheDrawsRow : OpenClaim := { program := "ytccidiflnmchiaa", sum := "ad83bbc64f1e5d066cf124d08b77ffd359bd34309a9eeac5d1964af8b4ab4f8e", func := "barleycorn/barleycornlaw07.LatheDraws", spec := "latheDraws", unfollowed := true, recurses := true, apart := false }
def LatheDrawsSaid : Prop := latheDrawsRow.holds Try.pinned (OpenSpec.ofChange latheDrawsSpec)

/-- ITS FALSE NEIGHBOUR: 'it returns false'. Refute it at one input. -/
def latheDrawsWrong : ChangeSpec := { name := "latheDraws", fn := fun _ => fun
  | [d1, d2, d3, d4] => { results := [.lit (.bool false)], args := [d1, d2, d3, d4] }
  | _ => none }
def LatheDrawsWrongFalsely : Prop := latheDrawsRow.holds Try.pinned (OpenSpec.ofChange latheDrawsWrong)

/-- 'barleycornlaw07.LatheLens': WHATEVER THE INPUT: true; the input reads as it did. -/
def latheLensSpec : ChangeSpec := { name := "latheLens", fn := fun _ => fun
  | [d1, d2, d3] => { results := [.lit (.bool true)], args := [d1, d2, d3] }
  | _ => none }
def latheLensRow : OpenClaim := { program := "ytccidiflnmchiaa", sum := "ad83bbc64f1e5d066cf124d08b77ffd359bd34309a9eeac5d1964af8b4ab4f8e", func := "barleycorn/barleycornlaw07.LatheLens", spec := "latheLens", unfollowed := true, recurses := true, apart := false }
def LatheLensSaid : Prop := latheLensRow.holds Try.pinned (OpenSpec.ofChange latheLensSpec)

/-- ITS FALSE NEIGHBOUR: 'it returns false'. Refute it at one input. -/
def latheLensWrong : ChangeSpec := { name := "latheLens", fn := fun _ => fun
  | [d1, d2, d3] => { results := [.lit (.bool false)], args := [d1, d2, d3] }
  | _ => none }
def LatheLensWrongFalsely : Prop := latheLensRow.holds Try.pinned (OpenSpec.ofChange latheLensWrong)

/-- 'barleycornlaw07.LatheSpelled': WHATEVER THE INPUT: true; the input reads as it did. -/
def latheSpelledSpec : ChangeSpec := { name := "latheSpelled", fn := fun _ => fun
  | [d1, d2, d3, d4] => { results := [.lit (.bool true)], args := [d1, d2, d3, d4] }
  | _ => none }
def latheSpelledRow : OpenClaim := { program := "ytccidiflnmchiaa", sum := "ad83bbc64f1e5d066cf124d08b77ffd359bd34309a9eeac5d1964af8b4ab4f8e", func := "barleycorn/barleycornlaw07.LatheSpelled", spec := "latheSpelled", unfollowed := true, recurses := true, apart := false }
def LatheSpelledSaid : Prop := latheSpelledRow.holds Try.pinned (OpenSpec.ofChange latheSpelledSpec)

/-- ITS FALSE NEIGHBOUR: 'it returns false'. Refute it at one input. -/
def latheSpelledWrong : ChangeSpec := { name := "latheSpelled", fn := fun _ => fun
  | [d1, d2, d3, d4] => { results := [.lit (.bool false)], args := [d1, d2, d3, d4] }
  | _ => none }
def LatheSpelledWrongFalsely : Prop := latheSpelledRow.holds Try.pinned (OpenSpec.ofChange latheSpelledWrong)

/-- 'barleycornlaw07.LatheSaid': WHATEVER THE INPUT: true; the input reads as it did. -/
def latheSaidSpec : ChangeSpec := { name := "latheSaid", fn := fun _ => fun
  | [d1, d2, d3] => { results := [.lit (.bool true)], args := [d1, d2, d3] }
  | _ => none }
def latheSaidRow : OpenClaim := { program := "ytccidiflnmchiaa", sum := "ad83bbc64f1e5d066cf124d08b77ffd359bd34309a9eeac5d1964af8b4ab4f8e", func := "barleycorn/barleycornlaw07.LatheSaid", spec := "latheSaid", unfollowed := true, recurses := true, apart := false }
def LatheSaidSaid : Prop := latheSaidRow.holds Try.pinned (OpenSpec.ofChange latheSaidSpec)

/-- ITS FALSE NEIGHBOUR: 'it returns false'. Refute it at one input. -/
def latheSaidWrong : ChangeSpec := { name := "latheSaid", fn := fun _ => fun
  | [d1, d2, d3] => { results := [.lit (.bool false)], args := [d1, d2, d3] }
  | _ => none }
def LatheSaidWrongFalsely : Prop := latheSaidRow.holds Try.pinned (OpenSpec.ofChange latheSaidWrong)

/-- 'barleycornlaw07.LatheClashes': WHATEVER THE INPUT: true; the input reads as it did. -/
def latheClashesSpec : ChangeSpec := { name := "latheClashes", fn := fun _ => fun
  | [d1, d2] => { results := [.lit (.bool true)], args := [d1, d2] }
  | _ => none }
def latheClashesRow : OpenClaim := { program := "ytccidiflnmchiaa", sum := "ad83bbc64f1e5d066cf124d08b77ffd359bd34309a9eeac5d1964af8b4ab4f8e", func := "barleycorn/barleycornlaw07.LatheClashes", spec := "latheClashes", unfollowed := true, recurses := true, apart := false }
def LatheClashesSaid : Prop := latheClashesRow.holds Try.pinned (OpenSpec.ofChange latheClashesSpec)

/-- ITS FALSE NEIGHBOUR: 'it returns false'. Refute it at one input. -/
def latheClashesWrong : ChangeSpec := { name := "latheClashes", fn := fun _ => fun
  | [d1, d2] => { results := [.lit (.bool false)], args := [d1, d2] }
  | _ => none }
def LatheClashesWrongFalsely : Prop := latheClashesRow.holds Try.pinned (OpenSpec.ofChange latheClashesWrong)

/-- 'barleycornlaw07.LatheTone': WHATEVER THE INPUT: true; the input reads as it did. -/
def latheToneSpec : ChangeSpec := { name := "latheTone", fn := fun _ => fun
  | [d1, d2, d3] => { results := [.lit (.bool true)], args := [d1, d2, d3] }
  | _ => none }
def latheToneRow : OpenClaim := { program := "ytccidiflnmchiaa", sum := "ad83bbc64f1e5d066cf124d08b77ffd359bd34309a9eeac5d1964af8b4ab4f8e", func := "barleycorn/barleycornlaw07.LatheTone", spec := "latheTone", unfollowed := true, recurses := true, apart := false }
def LatheToneSaid : Prop := latheToneRow.holds Try.pinned (OpenSpec.ofChange latheToneSpec)

/-- ITS FALSE NEIGHBOUR: 'it returns false'. Refute it at one input. -/
def latheToneWrong : ChangeSpec := { name := "latheTone", fn := fun _ => fun
  | [d1, d2, d3] => { results := [.lit (.bool false)], args := [d1, d2, d3] }
  | _ => none }
def LatheToneWrongFalsely : Prop := latheToneRow.holds Try.pinned (OpenSpec.ofChange latheToneWrong)

/-- 'barleycornlaw07.LatheMost': WHATEVER THE INPUT: true; the input reads as it did. -/
def latheMostSpec : ChangeSpec := { name := "latheMost", fn := fun _ => fun
  | [d1, d2, d3, d4] => { results := [.lit (.bool true)], args := [d1, d2, d3, d4] }
  | _ => none }
def latheMostRow : OpenClaim := { program := "ytccidiflnmchiaa", sum := "ad83bbc64f1e5d066cf124d08b77ffd359bd34309a9eeac5d1964af8b4ab4f8e", func := "barleycorn/barleycornlaw07.LatheMost", spec := "latheMost", unfollowed := true, recurses := true, apart := false }
def LatheMostSaid : Prop := latheMostRow.holds Try.pinned (OpenSpec.ofChange latheMostSpec)

/-- ITS FALSE NEIGHBOUR: 'it returns false'. Refute it at one input. -/
def latheMostWrong : ChangeSpec := { name := "latheMost", fn := fun _ => fun
  | [d1, d2, d3, d4] => { results := [.lit (.bool false)], args := [d1, d2, d3, d4] }
  | _ => none }
def LatheMostWrongFalsely : Prop := latheMostRow.holds Try.pinned (OpenSpec.ofChange latheMostWrong)

/-- 'barleycornlaw07.LatheGreatest': WHATEVER THE INPUT: true; the input reads as it did. -/
def latheGreatestSpec : ChangeSpec := { name := "latheGreatest", fn := fun _ => fun
  | [d1, d2, d3, d4, d5] => { results := [.lit (.bool true)], args := [d1, d2, d3, d4, d5] }
  | _ => none }
def latheGreatestRow : OpenClaim := { program := "ytccidiflnmchiaa", sum := "ad83bbc64f1e5d066cf124d08b77ffd359bd34309a9eeac5d1964af8b4ab4f8e", func := "barleycorn/barleycornlaw07.LatheGreatest", spec := "latheGreatest", unfollowed := true, recurses := true, apart := false }
def LatheGreatestSaid : Prop := latheGreatestRow.holds Try.pinned (OpenSpec.ofChange latheGreatestSpec)

/-- ITS FALSE NEIGHBOUR: 'it returns false'. Refute it at one input. -/
def latheGreatestWrong : ChangeSpec := { name := "latheGreatest", fn := fun _ => fun
  | [d1, d2, d3, d4, d5] => { results := [.lit (.bool false)], args := [d1, d2, d3, d4, d5] }
  | _ => none }
def LatheGreatestWrongFalsely : Prop := latheGreatestRow.holds Try.pinned (OpenSpec.ofChange latheGreatestWrong)

/-- 'barleycornlaw07.LatheExamples': WHATEVER THE INPUT: true; the input reads as it did. -/
def latheExamplesSpec : ChangeSpec := { name := "latheExamples", fn := fun _ => fun
  | [] => { results := [.lit (.bool true)], args := [] }
  | _ => none }
def latheExamplesRow : OpenClaim := { program := "ytccidiflnmchiaa", sum := "ad83bbc64f1e5d066cf124d08b77ffd359bd34309a9eeac5d1964af8b4ab4f8e", func := "barleycorn/barleycornlaw07.LatheExamples", spec := "latheExamples", unfollowed := true, recurses := true, apart := false }
def LatheExamplesSaid : Prop := latheExamplesRow.holds Try.pinned (OpenSpec.ofChange latheExamplesSpec)

/-- ITS FALSE NEIGHBOUR: 'it returns false'. Refute it at one input. -/
def latheExamplesWrong : ChangeSpec := { name := "latheExamples", fn := fun _ => fun
  | [] => { results := [.lit (.bool false)], args := [] }
  | _ => none }
def LatheExamplesWrongFalsely : Prop := latheExamplesRow.holds Try.pinned (OpenSpec.ofChange latheExamplesWrong)

/-- 'barleycornlaw07.LatheClear': WHATEVER THE INPUT: true; the input reads as it did. -/
def latheClearSpec : ChangeSpec := { name := "latheClear", fn := fun _ => fun
  | [d1, d2, d3, d4, d5, d6, d7] => { results := [.lit (.bool true)], args := [d1, d2, d3, d4, d5, d6, d7] }
  | _ => none }
def latheClearRow : OpenClaim := { program := "ytccidiflnmchiaa", sum := "ad83bbc64f1e5d066cf124d08b77ffd359bd34309a9eeac5d1964af8b4ab4f8e", func := "barleycorn/barleycornlaw07.LatheClear", spec := "latheClear", unfollowed := true, recurses := true, apart := false }
def LatheClearSaid : Prop := latheClearRow.holds Try.pinned (OpenSpec.ofChange latheClearSpec)

/-- ITS FALSE NEIGHBOUR: 'it returns false'. Refute it at one input. -/
def latheClearWrong : ChangeSpec := { name := "latheClear", fn := fun _ => fun
  | [d1, d2, d3, d4, d5, d6, d7] => { results := [.lit (.bool false)], args := [d1, d2, d3, d4, d5, d6, d7] }
  | _ => none }
def LatheClearWrongFalsely : Prop := latheClearRow.holds Try.pinned (OpenSpec.ofChange latheClearWrong)

/- THE SECOND FORM. 'bulk': how many values and letters a reading holds, each counted each time it is reached (what is shared counts as often as it is met; a slice's spare places count too). A statement '..UptoSaid' is the law's where the arguments, and the package variables that the reading takes, are together of bulk at most 1048576: NARROWER than '..Said'. Prove '..Said' where nothing that the law and all that it calls make is longer than what came in: it says more and counts as full. Else prove '..UptoSaid'. A law counts once. -/
mutual
def uptoBulk {H : Type} : DataW H → Nat
  | .lit (.string bytes) => bytes.length + 1
  | .lit _ => 1
  | .nil => 1
  | .ptr d => uptoBulk d + 1
  | .slice elems spare => uptoBulkAll elems + uptoBulkAll spare + 1
  | .agg parts => uptoBulkAll parts + 1
  | .iface _ d => uptoBulk d + 1
  | .map entries => uptoBulkEntries entries + 1
  | .held _ => 1
def uptoBulkAll {H : Type} : List (DataW H) → Nat
  | [] => 0
  | d :: r => uptoBulk d + uptoBulkAll r
def uptoBulkEntries {H : Type} : List (Lit × DataW H) → Nat
  | [] => 0
  | x :: r => uptoBulkEntry x + uptoBulkEntries r
def uptoBulkEntry {H : Type} : Lit × DataW H → Nat
  | (.string bytes, d) => bytes.length + uptoBulk d + 1
  | (_, d) => uptoBulk d + 1
 end
def uptoSmall : (H : Type) → List (DataW H) → Bool := fun _ ds => decide (uptoBulkAll ds ≤ 1048576)
def OpenSpec.upto (s : _root_.Go.ChangeSpec) : _root_.Go.OpenSpec := { _root_.Go.OpenSpec.ofChange s with cond := some uptoSmall }

/-- 'barleycornlaw07.LatheEven', WHERE WHAT IT READS IS OF BULK AT MOST 1048576: true; the input reads as it did. -/
def latheEvenUptoRow : OpenClaim := { program := "ytccidiflnmchiaa", sum := "ad83bbc64f1e5d066cf124d08b77ffd359bd34309a9eeac5d1964af8b4ab4f8e", func := "barleycorn/barleycornlaw07.LatheEven", spec := "latheEven", apart := false, narrowed := true }
def LatheEvenUptoSaid : Prop := latheEvenUptoRow.holds Try.pinned (OpenSpec.upto latheEvenSpec)

/-- 'barleycornlaw07.LatheBands', WHERE WHAT IT READS IS OF BULK AT MOST 1048576: true; the input reads as it did. -/
def latheBandsUptoRow : OpenClaim := { program := "ytccidiflnmchiaa", sum := "ad83bbc64f1e5d066cf124d08b77ffd359bd34309a9eeac5d1964af8b4ab4f8e", func := "barleycorn/barleycornlaw07.LatheBands", spec := "latheBands", unfollowed := true, recurses := true, apart := false, narrowed := true }
def LatheBandsUptoSaid : Prop := latheBandsUptoRow.holds Try.pinned (OpenSpec.upto latheBandsSpec)

/-- 'barleycornlaw07.LatheWords', WHERE WHAT IT READS IS OF BULK AT MOST 1048576: true; the input reads as it did. -/
def latheWordsUptoRow : OpenClaim := { program := "ytccidiflnmchiaa", sum := "ad83bbc64f1e5d066cf124d08b77ffd359bd34309a9eeac5d1964af8b4ab4f8e", func := "barleycorn/barleycornlaw07.LatheWords", spec := "latheWords", unfollowed := true, recurses := true, apart := false, narrowed := true }
def LatheWordsUptoSaid : Prop := latheWordsUptoRow.holds Try.pinned (OpenSpec.upto latheWordsSpec)

/-- 'barleycornlaw07.LatheSees', WHERE WHAT IT READS IS OF BULK AT MOST 1048576: true; the input reads as it did. -/
def latheSeesUptoRow : OpenClaim := { program := "ytccidiflnmchiaa", sum := "ad83bbc64f1e5d066cf124d08b77ffd359bd34309a9eeac5d1964af8b4ab4f8e", func := "barleycorn/barleycornlaw07.LatheSees", spec := "latheSees", unfollowed := true, recurses := true, apart := false, narrowed := true }
def LatheSeesUptoSaid : Prop := latheSeesUptoRow.holds Try.pinned (OpenSpec.upto latheSeesSpec)

/-- 'barleycornlaw07.LatheDraws', WHERE WHAT IT READS IS OF BULK AT MOST 1048576: true; the input reads as it did. -/
def latheDrawsUptoRow : OpenClaim := { program := "ytccidiflnmchiaa", sum := "ad83bbc64f1e5d066cf124d08b77ffd359bd34309a9eeac5d1964af8b4ab4f8e", func := "barleycorn/barleycornlaw07.LatheDraws", spec := "latheDraws", unfollowed := true, recurses := true, apart := false, narrowed := true }
def LatheDrawsUptoSaid : Prop := latheDrawsUptoRow.holds Try.pinned (OpenSpec.upto latheDrawsSpec)

/-- 'barleycornlaw07.LatheLens', WHERE WHAT IT READS IS OF BULK AT MOST 1048576: true; the input reads as it did. -/
def latheLensUptoRow : OpenClaim := { program := "ytccidiflnmchiaa", sum := "ad83bbc64f1e5d066cf124d08b77ffd359bd34309a9eeac5d1964af8b4ab4f8e", func := "barleycorn/barleycornlaw07.LatheLens", spec := "latheLens", unfollowed := true, recurses := true, apart := false, narrowed := true }
def LatheLensUptoSaid : Prop := latheLensUptoRow.holds Try.pinned (OpenSpec.upto latheLensSpec)

/-- 'barleycornlaw07.LatheSpelled', WHERE WHAT IT READS IS OF BULK AT MOST 1048576: true; the input reads as it did. -/
def latheSpelledUptoRow : OpenClaim := { program := "ytccidiflnmchiaa", sum := "ad83bbc64f1e5d066cf124d08b77ffd359bd34309a9eeac5d1964af8b4ab4f8e", func := "barleycorn/barleycornlaw07.LatheSpelled", spec := "latheSpelled", unfollowed := true, recurses := true, apart := false, narrowed := true }
def LatheSpelledUptoSaid : Prop := latheSpelledUptoRow.holds Try.pinned (OpenSpec.upto latheSpelledSpec)

/-- 'barleycornlaw07.LatheSaid', WHERE WHAT IT READS IS OF BULK AT MOST 1048576: true; the input reads as it did. -/
def latheSaidUptoRow : OpenClaim := { program := "ytccidiflnmchiaa", sum := "ad83bbc64f1e5d066cf124d08b77ffd359bd34309a9eeac5d1964af8b4ab4f8e", func := "barleycorn/barleycornlaw07.LatheSaid", spec := "latheSaid", unfollowed := true, recurses := true, apart := false, narrowed := true }
def LatheSaidUptoSaid : Prop := latheSaidUptoRow.holds Try.pinned (OpenSpec.upto latheSaidSpec)

/-- 'barleycornlaw07.LatheClashes', WHERE WHAT IT READS IS OF BULK AT MOST 1048576: true; the input reads as it did. -/
def latheClashesUptoRow : OpenClaim := { program := "ytccidiflnmchiaa", sum := "ad83bbc64f1e5d066cf124d08b77ffd359bd34309a9eeac5d1964af8b4ab4f8e", func := "barleycorn/barleycornlaw07.LatheClashes", spec := "latheClashes", unfollowed := true, recurses := true, apart := false, narrowed := true }
def LatheClashesUptoSaid : Prop := latheClashesUptoRow.holds Try.pinned (OpenSpec.upto latheClashesSpec)

/-- 'barleycornlaw07.LatheTone', WHERE WHAT IT READS IS OF BULK AT MOST 1048576: true; the input reads as it did. -/
def latheToneUptoRow : OpenClaim := { program := "ytccidiflnmchiaa", sum := "ad83bbc64f1e5d066cf124d08b77ffd359bd34309a9eeac5d1964af8b4ab4f8e", func := "barleycorn/barleycornlaw07.LatheTone", spec := "latheTone", unfollowed := true, recurses := true, apart := false, narrowed := true }
def LatheToneUptoSaid : Prop := latheToneUptoRow.holds Try.pinned (OpenSpec.upto latheToneSpec)

/-- 'barleycornlaw07.LatheMost', WHERE WHAT IT READS IS OF BULK AT MOST 1048576: true; the input reads as it did. -/
def latheMostUptoRow : OpenClaim := { program := "ytccidiflnmchiaa", sum := "ad83bbc64f1e5d066cf124d08b77ffd359bd34309a9eeac5d1964af8b4ab4f8e", func := "barleycorn/barleycornlaw07.LatheMost", spec := "latheMost", unfollowed := true, recurses := true, apart := false, narrowed := true }
def LatheMostUptoSaid : Prop := latheMostUptoRow.holds Try.pinned (OpenSpec.upto latheMostSpec)

/-- 'barleycornlaw07.LatheGreatest', WHERE WHAT IT READS IS OF BULK AT MOST 1048576: true; the input reads as it did. -/
def latheGreatestUptoRow : OpenClaim := { program := "ytccidiflnmchiaa", sum := "ad83bbc64f1e5d066cf124d08b77ffd359bd34309a9eeac5d1964af8b4ab4f8e", func := "barleycorn/barleycornlaw07.LatheGreatest", spec := "latheGreatest", unfollowed := true, recurses := true, apart := false, narrowed := true }
def LatheGreatestUptoSaid : Prop := latheGreatestUptoRow.holds Try.pinned (OpenSpec.upto latheGreatestSpec)

/-- 'barleycornlaw07.LatheExamples', WHERE WHAT IT READS IS OF BULK AT MOST 1048576: true; the input reads as it did. -/
def latheExamplesUptoRow : OpenClaim := { program := "ytccidiflnmchiaa", sum := "ad83bbc64f1e5d066cf124d08b77ffd359bd34309a9eeac5d1964af8b4ab4f8e", func := "barleycorn/barleycornlaw07.LatheExamples", spec := "latheExamples", unfollowed := true, recurses := true, apart := false, narrowed := true }
def LatheExamplesUptoSaid : Prop := latheExamplesUptoRow.holds Try.pinned (OpenSpec.upto latheExamplesSpec)

/-- 'barleycornlaw07.LatheClear', WHERE WHAT IT READS IS OF BULK AT MOST 1048576: true; the input reads as it did. -/
def latheClearUptoRow : OpenClaim := { program := "ytccidiflnmchiaa", sum := "ad83bbc64f1e5d066cf124d08b77ffd359bd34309a9eeac5d1964af8b4ab4f8e", func := "barleycorn/barleycornlaw07.LatheClear", spec := "latheClear", unfollowed := true, recurses := true, apart := false, narrowed := true }
def LatheClearUptoSaid : Prop := latheClearUptoRow.holds Try.pinned (OpenSpec.upto latheClearSpec)

end Rows
end Go.Proofs.Ytccidiflnmchiaa
