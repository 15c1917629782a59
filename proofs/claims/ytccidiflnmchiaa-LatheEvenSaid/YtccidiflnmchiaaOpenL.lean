/- The arguments of the statements on lathes. No condition. -/
import Derived.Test.YtccidiflnmchiaaOpen
import Derived.Test.YtccidiflnmchiaaT1
namespace Go.Proofs.Ytccidiflnmchiaa
open Go.ChangeShapes Go.WideShapes Go.ChangeAt Go.RowKit Go.Deep

structure Screen where
  period : Int
  phase : Int

theorem reads_Int : Reads Int Try.prog 3 := reads_int Try.underlying3 (by kernel_rfl)
theorem reads_Bool : Reads Bool Try.prog 4 := reads_bool Try.underlying4 (by kernel_rfl)
theorem reads_ints : Reads (List Int) Try.prog 24 := reads_list Try.underlying24 (by kernel_rfl) reads_Int
theorem reads_bools : Reads (List Bool) Try.prog 45 := reads_list Try.underlying45 (by kernel_rfl) reads_Bool
section
variable {H : Type} {enc : TypeId × Value → H} {w : World} {base : Nat} {spare : Nat → Bool} {held : Bool} {r : Reach} {b0 : Nat} {v : Value} {d : DataW H} {p : List MemPlace}
set_option maxRecDepth 100000 in
theorem open_sheet (hv : Value.okWide Try.prog w r b0 23 v) (h : DataW.Trod enc Try.prog w base spare held 23 v d p) : ∃ s : Sheet, v = .agg #[.int .i64 s.cols, .int .i64 s.rows, .int .i64 s.weight, .int .i64 s.clear, .int .i64 s.lean] := by
  obtain ⟨cs, fuel, x, rfl, hf⟩ := open_struct Try.underlying23 hv h
  have hlen := struct_len Try.underlying23 hf
  rw [show Try.prog.cellsOf 23 = 5 by kernel_rfl] at hlen
  obtain ⟨k0, e0, _⟩ := struct_int Try.underlying23 hf 0 rfl Try.underlying3 (by kernel_rfl) (by show 0 < _; omega)
  obtain ⟨k1, e1, _⟩ := struct_int Try.underlying23 hf 1 rfl Try.underlying3 (by kernel_rfl) (by show 1 < _; omega)
  obtain ⟨k2, e2, _⟩ := struct_int Try.underlying23 hf 2 rfl Try.underlying3 (by kernel_rfl) (by show 2 < _; omega)
  obtain ⟨k3, e3, _⟩ := struct_int Try.underlying23 hf 3 rfl Try.underlying3 (by kernel_rfl) (by show 3 < _; omega)
  obtain ⟨k4, e4, _⟩ := struct_int Try.underlying23 hf 4 rfl Try.underlying3 (by kernel_rfl) (by show 4 < _; omega)
  refine ⟨⟨k0, k1, k2, k3, k4⟩, ?_⟩
  match cs, hlen with
  | [c0, c1, c2, c3, c4], _ =>
    simp at e0 e1 e2 e3 e4
    rw [e0, e1, e2, e3, e4]
set_option maxRecDepth 100000 in
theorem open_screen (hv : Value.okWide Try.prog w r b0 71 v) (h : DataW.Trod enc Try.prog w base spare held 71 v d p) : ∃ s : Screen, v = .agg #[.int .i64 s.period, .int .i64 s.phase] := by
  obtain ⟨cs, fuel, x, rfl, hf⟩ := open_struct Try.underlying71 hv h
  have hlen := struct_len Try.underlying71 hf
  rw [show Try.prog.cellsOf 71 = 2 by kernel_rfl] at hlen
  obtain ⟨k0, e0, _⟩ := struct_int Try.underlying71 hf 0 rfl Try.underlying3 (by kernel_rfl) (by show 0 < _; omega)
  obtain ⟨k1, e1, _⟩ := struct_int Try.underlying71 hf 1 rfl Try.underlying3 (by kernel_rfl) (by show 1 < _; omega)
  refine ⟨⟨k0, k1⟩, ?_⟩
  match cs, hlen with
  | [c0, c1], _ =>
    simp at e0 e1
    rw [e0, e1]
set_option maxRecDepth 100000 in
theorem open_ints' (hv : Value.okWide Try.prog w r b0 24 v) (h : DataW.Trod enc Try.prog w base spare held 24 v d p) : ∃ (l : List Int) (A : Option Addr) (c : Nat), v = .slice A l.length c ∧ Arr w w.heap.size A c l :=
  open_list Try.underlying24 reads_Int hv h
set_option maxRecDepth 100000 in
theorem open_rows (hv : Value.okWide Try.prog w r b0 25 v) (h : DataW.Trod enc Try.prog w base spare held 25 v d p) : ∃ (l : List (List Int)) (A : Option Addr) (c : Nat), v = .slice A l.length c ∧ Arr w w.heap.size A c l :=
  open_list Try.underlying25 reads_ints hv h
set_option maxRecDepth 100000 in
theorem open_band (hv : Value.okWide Try.prog w r b0 26 v) (h : DataW.Trod enc Try.prog w base spare held 26 v d p) : ∃ (l : List (List Int)) (A : Option Addr) (c : Nat), v = .slice A l.length c ∧ Arr w w.heap.size A c l :=
  open_list Try.underlying26 reads_ints hv h
set_option maxRecDepth 100000 in
theorem open_mask (hv : Value.okWide Try.prog w r b0 57 v) (h : DataW.Trod enc Try.prog w base spare held 57 v d p) : ∃ (l : List (List Bool)) (A : Option Addr) (c : Nat), v = .slice A l.length c ∧ Arr w w.heap.size A c l :=
  open_list Try.underlying57 reads_bools hv h
set_option maxRecDepth 100000 in
theorem open_int' (hv : Value.okWide Try.prog w r b0 3 v) (h : DataW.Trod enc Try.prog w base spare held 3 v d p) : ∃ n : Int, v = .int .i64 n ∧ -9223372036854775808 ≤ n ∧ n ≤ 9223372036854775807 := by
  obtain ⟨n, rfl, _, _, hw⟩ := open_int Try.underlying3 hv h
  exact ⟨n, rfl, bounds_i64 hw⟩
end
end Go.Proofs.Ytccidiflnmchiaa
