/- The arguments of the statements on plates. No condition. -/
import Derived.Test.YthpbjihnikapoaaOpen
import Derived.Test.YthpbjihnikapoaaP4
namespace Go.Proofs.Ythpbjihnikapoaa
open Go.ChangeShapes Go.WideShapes Go.ChangeAt Go.RowKit Go.Deep

theorem reads_Int : Reads Int Try.prog 3 := reads_int Try.underlying3 (by kernel_rfl)
theorem reads_Bool : Reads Bool Try.prog 4 := reads_bool Try.underlying4 (by kernel_rfl)
theorem reads_ints : Reads (List Int) Try.prog 60 := reads_list Try.underlying60 (by kernel_rfl) reads_Int
set_option maxRecDepth 100000 in
theorem reads_Spot : Reads Spot Try.prog 24 := by
  refine ⟨by kernel_rfl, by show 0 < 2; omega, fun {H} {enc} {w} {base} {spare} {held} {fuel} {cs} {x} hf => ?_⟩
  have hlen := struct_len Try.underlying24 hf
  rw [show Try.prog.cellsOf 24 = 2 by kernel_rfl] at hlen
  obtain ⟨k0, e0, _⟩ := struct_int Try.underlying24 hf 0 rfl Try.underlying3 (by kernel_rfl) (by show 0 < _; omega)
  obtain ⟨k1, e1, _⟩ := struct_int Try.underlying24 hf 1 rfl Try.underlying3 (by kernel_rfl) (by show 1 < _; omega)
  refine ⟨⟨k0, k1⟩, ?_⟩
  match cs, hlen with
  | [c0, c1], _ =>
    simp at e0 e1
    rw [e0, e1]
    rfl
section
variable {H : Type} {enc : TypeId × Value → H} {w : World} {base : Nat} {spare : Nat → Bool} {held : Bool} {r : Reach} {b0 : Nat} {v : Value} {d : DataW H} {p : List MemPlace}
set_option maxRecDepth 100000 in
theorem open_ints' (hv : Value.okWide Try.prog w r b0 60 v) (h : DataW.Trod enc Try.prog w base spare held 60 v d p) : ∃ (l : List Int) (A : Option Addr) (c : Nat), v = .slice A l.length c ∧ Arr w w.heap.size A c l :=
  open_list Try.underlying60 reads_Int hv h
set_option maxRecDepth 100000 in
theorem open_spots (hv : Value.okWide Try.prog w r b0 22 v) (h : DataW.Trod enc Try.prog w base spare held 22 v d p) : ∃ (l : List Spot) (A : Option Addr) (c : Nat), v = .slice A l.length c ∧ Arr w w.heap.size A c l :=
  open_list Try.underlying22 reads_Spot hv h
set_option maxRecDepth 100000 in
theorem open_int' (hv : Value.okWide Try.prog w r b0 3 v) (h : DataW.Trod enc Try.prog w base spare held 3 v d p) : ∃ n : Int, v = .int .i64 n ∧ -9223372036854775808 ≤ n ∧ n ≤ 9223372036854775807 := by
  obtain ⟨n, rfl, _, _, hw⟩ := open_int Try.underlying3 hv h
  exact ⟨n, rfl, bounds_i64 hw⟩
end
end Go.Proofs.Ythpbjihnikapoaa
