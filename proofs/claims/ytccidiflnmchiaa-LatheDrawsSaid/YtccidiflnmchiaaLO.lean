/- The arguments of the statements on lathes. No condition. -/
import Derived.Test.YtccidiflnmchiaaAmO
import Derived.Test.YtccidiflnmchiaaL1
namespace Go.Proofs.Ytccidiflnmchiaa
open Go.ChangeShapes Go.WideShapes Go.ChangeAt Go.RowKit Go.Deep
structure Screen where
  period : Int
  phase : Int
def Screen.enc (s : Screen) : V := .agg [vi s.period, vi s.phase]
theorem rv_Int : ReadsV Try.prog 3 vi i64ok 1 := rv_int Try.underlying3 (by kernel_rfl)
theorem rv_Bool : ReadsV Try.prog 4 vb (fun _ => True) 1 := rv_bool Try.underlying4 (by kernel_rfl)
theorem rv_ints : ReadsV Try.prog 24 (LV 1 vi) (fun l => ∀ y, y ∈ l → i64ok y) 1 := rv_list Try.underlying24 (by kernel_rfl) rv_Int
theorem rv_bools : ReadsV Try.prog 45 (LV 1 vb) (fun l => ∀ y, y ∈ l → True) 1 := rv_list Try.underlying45 (by kernel_rfl) rv_Bool
set_option maxRecDepth 100000 in
theorem rv_sheet : ReadsV Try.prog 23 Sheet.enc (fun s => i64ok s.cols ∧ i64ok s.rows ∧ i64ok s.weight ∧ i64ok s.clear ∧ i64ok s.lean) 5 :=
  ⟨by kernel_rfl, by omega, fun {_ _ _ _ _ _ _ cs _} h => by
    have hlen := struct_len Try.underlying23 h
    rw [show Try.prog.cellsOf 23 = 5 by kernel_rfl] at hlen
    obtain ⟨k0, o0, l0, e0⟩ := struct_part Try.underlying23 h 0 rfl rv_Int
    obtain ⟨k1, o1, l1, e1⟩ := struct_part Try.underlying23 h 1 rfl rv_Int
    obtain ⟨k2, o2, l2, e2⟩ := struct_part Try.underlying23 h 2 rfl rv_Int
    obtain ⟨k3, o3, l3, e3⟩ := struct_part Try.underlying23 h 3 rfl rv_Int
    obtain ⟨k4, o4, l4, e4⟩ := struct_part Try.underlying23 h 4 rfl rv_Int
    refine ⟨⟨k0, k1, k2, k3, k4⟩, ⟨o0, o1, o2, o3, o4⟩, hlen, hlen.symm, fun j x u hx hu => ?_⟩
    match j, hx with
    | 0, hx => cases hx; exact cells_one e0 rfl hu
    | 1, hx => cases hx; exact cells_one e1 rfl hu
    | 2, hx => cases hx; exact cells_one e2 rfl hu
    | 3, hx => cases hx; exact cells_one e3 rfl hu
    | 4, hx => cases hx; exact cells_one e4 rfl hu
    | j + 5, hx => simp [Sheet.enc, cells_agg] at hx⟩
set_option maxRecDepth 100000 in
theorem rv_screen : ReadsV Try.prog 71 Screen.enc (fun s => i64ok s.period ∧ i64ok s.phase) 2 :=
  ⟨by kernel_rfl, by omega, fun {_ _ _ _ _ _ _ cs _} h => by
    have hlen := struct_len Try.underlying71 h
    rw [show Try.prog.cellsOf 71 = 2 by kernel_rfl] at hlen
    obtain ⟨k0, o0, l0, e0⟩ := struct_part Try.underlying71 h 0 rfl rv_Int
    obtain ⟨k1, o1, l1, e1⟩ := struct_part Try.underlying71 h 1 rfl rv_Int
    refine ⟨⟨k0, k1⟩, ⟨o0, o1⟩, hlen, hlen.symm, fun j x u hx hu => ?_⟩
    match j, hx with
    | 0, hx => cases hx; exact cells_one e0 rfl hu
    | 1, hx => cases hx; exact cells_one e1 rfl hu
    | j + 2, hx => simp [Screen.enc, cells_agg] at hx⟩
section
variable {H : Type} {enc : TypeId × Value → H} {w : World} {base : Nat} {spare : Nat → Bool} {held : Bool} {r : Reach} {b0 : Nat} {v : Value} {d : DataW H} {p : List MemPlace}
set_option maxRecDepth 100000 in
theorem arg_sheet (hv : Value.okWide Try.prog w r b0 23 v) (h : DataW.Trod enc Try.prog w base spare held 23 v d p) : ∃ s : Sheet, (i64ok s.cols ∧ i64ok s.rows ∧ i64ok s.weight ∧ i64ok s.clear ∧ i64ok s.lean) ∧ VRel (snap w) [] s.enc v := arg_struct Try.underlying23 rv_sheet (fun _ => rfl) hv h
set_option maxRecDepth 100000 in
theorem arg_screen (hv : Value.okWide Try.prog w r b0 71 v) (h : DataW.Trod enc Try.prog w base spare held 71 v d p) : ∃ s : Screen, (i64ok s.period ∧ i64ok s.phase) ∧ VRel (snap w) [] s.enc v := arg_struct Try.underlying71 rv_screen (fun _ => rfl) hv h
end
end Go.Proofs.Ytccidiflnmchiaa
