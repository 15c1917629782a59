import Derived.Test.YthpbjihnikapoaaP2
namespace Go.Proofs.Ythpbjihnikapoaa
open Go.RowKit

def withinB (n lo hi : Int) : Bool := decide (lo ≤ n) && decide (n ≤ hi)
set_option maxHeartbeats 400000 in
theorem within5_c (n lo hi : Int) (w : World) : Calls Try.prog 71 #[.int .i64 n, .int .i64 lo, .int .i64 hi] w fun e w' => e = .returned (.bool (withinB n lo hi)) ∧ Ext w w' := by
  go_enter Try.func71, Try.ntmps71
  go_wp2
  all_goals (go_ret; refine ⟨ret_bool ?_, (by repeat (first | exact Ext.refl _ | exact Ext.draws _ _ _ | refine Ext.plus ?_ _ | refine Ext.alloc ?_ _ | refine Ext.drew ?_ | refine Ext.drewN ?_ _))⟩; go_light; grind [withinB])
set_option maxHeartbeats 400000 in
theorem within8_c (n lo hi : Int) (w : World) : Calls Try.prog 51 #[.int .i64 n, .int .i64 lo, .int .i64 hi] w fun e w' => e = .returned (.bool (withinB n lo hi)) ∧ Ext w w' := by
  go_enter Try.func51, Try.ntmps51
  go_wp2
  all_goals (go_ret; refine ⟨ret_bool ?_, (by repeat (first | exact Ext.refl _ | exact Ext.draws _ _ _ | refine Ext.plus ?_ _ | refine Ext.alloc ?_ _ | refine Ext.drew ?_ | refine Ext.drewN ?_ _))⟩; go_light; grind [withinB])
def okX (s : Spot) : Bool := withinB s.x (-10000) 10000
def okY (s : Spot) : Bool := withinB s.y (-10000) 10000
def spotsB (l : List Spot) : Bool := l.all (fun s => okX s && okY s) && withinB l.length 1 12

set_option maxHeartbeats 1600000 in
theorem spots_c (A : Option Addr) (c : Nat) (l : List Spot) (w : World) (h : Arr w w.heap.size A c l) :
    Calls Try.prog 52 #[.slice A l.length c] w fun e w' => e = .returned (.bool (spotsB l)) ∧ Ext w w' := by
  have hle := h.le
  go_enter Try.func52, Try.ntmps52
  go_wp2
  go_loopw [3] (fun t wr => ∃ i : Nat, i ≤ l.length ∧ t = .int .i64 i ∧ Ext w wr ∧ Hid (∀ j, j < i → (okX (spot l j) && okY (spot l j)) = true)) (fun t _ => l.length - (intOf t).toNat)
  case atStart => exact ⟨0, by omega, rfl, (by repeat (first | exact Ext.refl _ | exact Ext.draws _ _ _ | refine Ext.plus ?_ _ | refine Ext.alloc ?_ _ | refine Ext.drew ?_ | refine Ext.drewN ?_ _)), fun j hj => by omega⟩
  case round =>
    obtain ⟨i, hi, rfl, ⟨g, rfl⟩, H⟩ := hrel
    by_cases hlt : i < l.length
    · obtain ⟨bb, off, rfl, hb, hc⟩ := h.spot (by omega)
      obtain ⟨hcx, hcy⟩ := hc i hlt
      clear hc
      have bad : (okX (spot l i) && okY (spot l i)) = false → spotsB l = false := fun hf => by
        unfold spotsB
        rw [Bool.and_eq_false_iff]
        refine .inl ?_
        rw [List.all_eq_false]
        refine ⟨spot l i, ?_, by rw [hf]; simp⟩
        simp [spot, hlt]
      cases h1 : okX (spot l i)
      · have hbad := bad (by rw [h1]; rfl)
        have HB : Hid _ := hbad
        have H1 : Hid _ := h1
        clear h1 bad hbad
        go_wp2_with fail
        refine (within5_c _ _ _ _).mono ?_
        rintro e w1 ⟨rfl, g2, rfl⟩
        rw [show withinB (spot l i).x (-10000) 10000 = false from H1.out]
        go_wp2
        go_ret
        exact ⟨ret_bool HB.out.symm, (by repeat (first | exact Ext.refl _ | exact Ext.draws _ _ _ | refine Ext.plus ?_ _ | refine Ext.alloc ?_ _ | refine Ext.drew ?_ | refine Ext.drewN ?_ _))⟩
      · cases h2 : okY (spot l i)
        · have hbad := bad (by rw [h1, h2]; rfl)
          have HB : Hid _ := hbad
          have H1 : Hid _ := h1
          have H2 : Hid _ := h2
          clear h1 h2 bad hbad
          go_wp2_with fail
          refine (within5_c _ _ _ _).mono ?_
          rintro e w1 ⟨rfl, g2, rfl⟩
          rw [show withinB (spot l i).x (-10000) 10000 = true from H1.out]
          go_wp2_with fail
          refine (within5_c _ _ _ _).mono ?_
          rintro e w1 ⟨rfl, g3, rfl⟩
          rw [show withinB (spot l i).y (-10000) 10000 = false from H2.out]
          go_wp2
          go_ret
          exact ⟨ret_bool HB.out.symm, (by repeat (first | exact Ext.refl _ | exact Ext.draws _ _ _ | refine Ext.plus ?_ _ | refine Ext.alloc ?_ _ | refine Ext.drew ?_ | refine Ext.drewN ?_ _))⟩
        · have H1 : Hid _ := h1
          have H2 : Hid _ := h2
          clear h1 h2 bad
          go_wp2_with fail
          refine (within5_c _ _ _ _).mono ?_
          rintro e w1 ⟨rfl, g2, rfl⟩
          rw [show withinB (spot l i).x (-10000) 10000 = true from H1.out]
          go_wp2_with fail
          refine (within5_c _ _ _ _).mono ?_
          rintro e w1 ⟨rfl, g3, rfl⟩
          rw [show withinB (spot l i).y (-10000) 10000 = true from H2.out]
          go_wp2
          go_roundw
          case rel => exact ⟨i + 1, by omega, by go_num, (by repeat (first | exact Ext.refl _ | exact Ext.draws _ _ _ | refine Ext.plus ?_ _ | refine Ext.alloc ?_ _ | refine Ext.drew ?_ | refine Ext.drewN ?_ _)), fun j hj => by
            by_cases e : j = i
            · rw [e, H1.out, H2.out]; rfl
            · exact H.out j (by omega)⟩
          case measure => simp [intOf]; omega
    · obtain rfl : i = l.length := by omega
      have e1 : spotsB l = withinB l.length 1 12 := by
        unfold spotsB
        rw [show l.all (fun s => okX s && okY s) = true from by
          rw [List.all_eq_true]
          intro x hx
          obtain ⟨j, hj, rfl⟩ := List.getElem_of_mem hx
          have := H.out j hj
          simpa [spot, hj] using this]
        rfl
      have E1 : Hid _ := e1
      clear e1
      go_wp2_with fail
      refine (within5_c _ _ _ _).mono ?_
      rintro e w1 ⟨rfl, g2, rfl⟩
      go_wp2
      go_ret
      exact ⟨ret_bool E1.out.symm, (by repeat (first | exact Ext.refl _ | exact Ext.draws _ _ _ | refine Ext.plus ?_ _ | refine Ext.alloc ?_ _ | refine Ext.drew ?_ | refine Ext.drewN ?_ _))⟩

theorem arr_two {w : World} {e : TypeId} (s t : Spot) : Arr (w.alloc (.cells #[.int .i64 s.x, .int .i64 s.y, .int .i64 t.x, .int .i64 t.y] e)) (w.alloc (.cells #[.int .i64 s.x, .int .i64 s.y, .int .i64 t.x, .int .i64 t.y] e)).heap.size (some ⟨w.heap.size, 0, none⟩) 2 [s, t] := by
  refine ⟨Nat.le_refl _, by unfold maxLen; omega, fun _ => ⟨w.heap.size, 0, rfl, by simp, fun i x hx => ⟨Flat.enc x, rfl, fun j u hj => ?_⟩⟩⟩
  rw [World.cell?_alloc_new]
  match i, j with
  | 0, 0 => obtain rfl : s = x := by simpa using hx
            simpa [Flat.enc] using hj
  | 0, 1 => obtain rfl : s = x := by simpa using hx
            simpa [Flat.enc] using hj
  | 1, 0 => obtain rfl : t = x := by simpa using hx
            simpa [Flat.enc, Cells.size, Flat.width] using hj
  | 1, 1 => obtain rfl : t = x := by simpa using hx
            simpa [Flat.enc, Cells.size, Flat.width] using hj
  | 0, j + 2 => simp [Flat.enc] at hj
  | 1, j + 2 => simp [Flat.enc] at hj
  | i + 2, _ => simp at hx
theorem spots2_c (s t : Spot) (b : Nat) (e : TypeId) (w : World) (hb : b = w.heap.size) : Calls Try.prog 52 #[.slice (some ⟨b, 0, none⟩) 2 2] (w.alloc (.cells #[.int .i64 s.x, .int .i64 s.y, .int .i64 t.x, .int .i64 t.y] e)) fun e' w' => e' = .returned (.bool (spotsB [s, t])) ∧ Ext (w.alloc (.cells #[.int .i64 s.x, .int .i64 s.y, .int .i64 t.x, .int .i64 t.y] e)) w' := by
  subst hb
  exact spots_c _ 2 [s, t] _ (arr_two s t)
end Go.Proofs.Ythpbjihnikapoaa
