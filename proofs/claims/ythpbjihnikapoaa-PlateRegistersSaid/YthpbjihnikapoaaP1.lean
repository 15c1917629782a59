import Derived.Test.YthpbjihnikapoaaRows
import Derived.Test.YthpbjihnikapoaaFlat
namespace Go.Proofs.Ythpbjihnikapoaa
open Go.RowKit

/-- The place of the first number that is so; -1: none. -/
def idxF (p : Int → Bool) (l : List Int) : Int := match (List.range l.length).find? (fun i => p (nth l i)) with | some i => (i : Int) | none => -1
theorem idxF_at {p : Int → Bool} {l : List Int} {i : Nat} (hi : i < l.length) (h0 : ∀ j, j < i → p (nth l j) = false) (h : p (nth l i) = true) : idxF p l = i := by
  have : (List.range l.length).find? (fun i => p (nth l i)) = some i := by
    rw [List.find?_range_eq_some]
    exact ⟨h, by simpa using hi, fun j hj => by simp [h0 j hj]⟩
  unfold idxF
  rw [this]
theorem idxF_none {p : Int → Bool} {l : List Int} (h0 : ∀ j, j < l.length → p (nth l j) = false) : idxF p l = -1 := by
  have : (List.range l.length).find? (fun i => p (nth l i)) = none := by
    rw [List.find?_eq_none]
    intro j hj
    rw [List.mem_range] at hj
    simp [h0 j hj]
  unfold idxF
  rw [this]
theorem nth_mem {l : List Int} {i : Nat} (h : i < l.length) : nth l i ∈ l := by
  simp only [nth, List.getD_eq_getElem?_getD, List.getElem?_eq_getElem h, Option.getD_some]
  exact List.getElem_mem h
theorem idxF_any (p : Int → Bool) (l : List Int) : decide (0 ≤ idxF p l) = l.any p := by
  cases h : l.any p
  · rw [List.any_eq_false] at h
    rw [idxF_none fun j hj => by simpa using h _ (nth_mem hj)]
    rfl
  · rw [List.any_eq_true] at h
    obtain ⟨x, hx, hp⟩ := h
    obtain ⟨i, hi, rfl⟩ := List.getElem_of_mem hx
    unfold idxF
    split
    · simp
    · rename_i h0
      rw [List.find?_eq_none] at h0
      have := h0 i (by simpa using hi)
      simp [nth, hi, hp] at this
def fromB (lo hi : Int) (l : List Int) : Bool := l.all fun n => decide (lo ≤ n) && decide (n ≤ hi)

set_option maxRecDepth 100000 in
set_option maxHeartbeats 800000 in
theorem indexInts_c (k : FuncId) (hcf : ∀ (args : Array Value) (W : World), Sem.run Try.prog (callFunc k args) W = .ok (.enter k args) W) (cap1 cap2 : Value) (p : Int → Bool) (A : Option Addr) (c : Nat) (l : List Int) (w : World) (h : Arr w w.heap.size A c l)
    (hk : Hid (∀ W, Ext w W → ∀ x, Calls Try.prog k #[.int .i64 x, cap1, cap2] W fun e w' => e = .returned (.bool (p x)) ∧ Ext W w')) :
    Calls Try.prog 93 #[.slice A l.length c, .func (.func k) #[] #[cap1, cap2]] w fun e w' => e = .returned (.int .i64 (idxF p l)) ∧ Ext w w' := by
  have hle := h.le
  go_enter Try.func93, Try.ntmps93
  go_wp2
  go_loopw [8] (fun t wr => ∃ i : Nat, i ≤ l.length ∧ t = .int .i64 i ∧ Ext w wr ∧ Hid (∀ j, j < i → p (nth l j) = false)) (fun t _ => l.length - (intOf t).toNat)
  case atStart => exact ⟨0, by omega, rfl, (by repeat (first | exact Ext.refl _ | exact Ext.draws _ _ _ | refine Ext.plus ?_ _ | refine Ext.alloc ?_ _ | refine Ext.drew ?_ | refine Ext.drewN ?_ _)), fun j hj => by omega⟩
  case round =>
    obtain ⟨i, hi, rfl, ⟨g, rfl⟩, H⟩ := hrel
    by_cases hlt : i < l.length
    · obtain ⟨bb, off, rfl, hb, hc⟩ := h.int (by omega)
      have hck := hc i hlt
      clear hc
      cases h1 : p (nth l i)
      · have H1 : Hid _ := h1
        clear h1
        go_wp2_with fail
        refine (hk.out _ (by repeat (first | exact Ext.refl _ | exact Ext.draws _ _ _ | refine Ext.plus ?_ _ | refine Ext.alloc ?_ _ | refine Ext.drew ?_ | refine Ext.drewN ?_ _)) (nth l i)).mono ?_
        rintro e w1 ⟨rfl, g2, rfl⟩
        rw [H1.out]
        go_wp2
        go_roundw
        case rel => exact ⟨i + 1, by omega, by go_num, (by repeat (first | exact Ext.refl _ | exact Ext.draws _ _ _ | refine Ext.plus ?_ _ | refine Ext.alloc ?_ _ | refine Ext.drew ?_ | refine Ext.drewN ?_ _)), fun j hj => by
          by_cases e : j = i
          · rw [e]; exact H1.out
          · exact H.out j (by omega)⟩
        case measure => simp [intOf]; omega
      · have H1 : Hid _ := h1
        clear h1
        go_wp2_with fail
        refine (hk.out _ (by repeat (first | exact Ext.refl _ | exact Ext.draws _ _ _ | refine Ext.plus ?_ _ | refine Ext.alloc ?_ _ | refine Ext.drew ?_ | refine Ext.drewN ?_ _)) (nth l i)).mono ?_
        rintro e w1 ⟨rfl, g2, rfl⟩
        rw [H1.out]
        go_wp2
        go_ret
        exact ⟨ret_int (idxF_at hlt H.out H1.out).symm, (by repeat (first | exact Ext.refl _ | exact Ext.draws _ _ _ | refine Ext.plus ?_ _ | refine Ext.alloc ?_ _ | refine Ext.drew ?_ | refine Ext.drewN ?_ _))⟩
    · obtain rfl : i = l.length := by omega
      go_wp2
      go_ret
      exact ⟨ret_int (idxF_none H.out).symm, (by repeat (first | exact Ext.refl _ | exact Ext.draws _ _ _ | refine Ext.plus ?_ _ | refine Ext.alloc ?_ _ | refine Ext.drew ?_ | refine Ext.drewN ?_ _))⟩

set_option maxRecDepth 100000 in
set_option maxHeartbeats 800000 in
theorem containsInts_c (k : FuncId) (hcf : ∀ (args : Array Value) (W : World), Sem.run Try.prog (callFunc k args) W = .ok (.enter k args) W) (cap1 cap2 : Value) (p : Int → Bool) (A : Option Addr) (c : Nat) (l : List Int) (w : World) (h : Arr w w.heap.size A c l)
    (hk : Hid (∀ W, Ext w W → ∀ x, Calls Try.prog k #[.int .i64 x, cap1, cap2] W fun e w' => e = .returned (.bool (p x)) ∧ Ext W w')) :
    Calls Try.prog 69 #[.slice A l.length c, .func (.func k) #[] #[cap1, cap2]] w fun e w' => e = .returned (.bool (l.any p)) ∧ Ext w w' := by
  go_enter Try.func69, Try.ntmps69
  go_wp2_with fail
  refine (indexInts_c k hcf cap1 cap2 p A c l _ h hk).mono ?_
  rintro e w1 ⟨rfl, g2, rfl⟩
  go_wp2
  go_ret
  exact ⟨ret_bool (idxF_any p l), (by repeat (first | exact Ext.refl _ | exact Ext.draws _ _ _ | refine Ext.plus ?_ _ | refine Ext.alloc ?_ _ | refine Ext.drew ?_ | refine Ext.drewN ?_ _))⟩

def outB (lo hi n : Int) : Bool := decide (n < lo) || decide (hi < n)
set_option maxHeartbeats 800000 in
theorem fromF_c (lo hi n : Int) (b1 b2 : Nat) (w : World) (h1 : w.cell? ⟨b1, 0, none⟩ = some (.int .i64 lo)) (h2 : w.cell? ⟨b2, 0, none⟩ = some (.int .i64 hi)) :
    Calls Try.prog 70 #[.int .i64 n, .pointer (some ⟨b1, 0, none⟩), .pointer (some ⟨b2, 0, none⟩)] w fun e w' => e = .returned (.bool (outB lo hi n)) ∧ Ext w w' := by
  go_enter Try.func70, Try.ntmps70
  go_wp2
  all_goals (go_ret; refine ⟨ret_bool ?_, (by repeat (first | exact Ext.refl _ | exact Ext.draws _ _ _ | refine Ext.plus ?_ _ | refine Ext.alloc ?_ _ | refine Ext.drew ?_ | refine Ext.drewN ?_ _))⟩; go_light; grind [outB])
theorem any_out (lo hi : Int) (l : List Int) : (!l.any (outB lo hi)) = fromB lo hi l := by
  induction l with
  | nil => rfl
  | cons x l ih =>
    simp only [List.any_cons, Bool.not_or, fromB, List.all_cons] at *
    rw [ih]
    congr 1
    simp only [outB]
    grind
set_option maxHeartbeats 800000 in
theorem from_c (lo hi : Int) (A : Option Addr) (c : Nat) (l : List Int) (w : World) (h : Arr w w.heap.size A c l) :
    Calls Try.prog 50 #[.int .i64 lo, .int .i64 hi, .slice A l.length c] w fun e w' => e = .returned (.bool (fromB lo hi l)) ∧ Ext w w' := by
  go_enter Try.func50, Try.ntmps50
  go_wp2_with fail
  refine (containsInts_c 70 (fun _ _ => by kernel_rfl) _ _ (outB lo hi) A c l _ (h.up (by repeat (first | exact Ext.refl _ | exact Ext.draws _ _ _ | refine Ext.plus ?_ _ | refine Ext.alloc ?_ _ | refine Ext.drew ?_ | refine Ext.drewN ?_ _))) ?_).mono ?_
  · intro W hW x
    refine fromF_c lo hi x w.heap.size (w.heap.size + 1) W ?_ ?_
    · rw [hW.cell (by simp [go_sem])]; simp [go_sem]
    · rw [hW.cell (by simp [go_sem])]; simp [go_sem]
  · rintro e w1 ⟨rfl, g2, rfl⟩
    go_wp2
    go_ret
    exact ⟨ret_bool (any_out lo hi l), (by repeat (first | exact Ext.refl _ | exact Ext.draws _ _ _ | refine Ext.plus ?_ _ | refine Ext.alloc ?_ _ | refine Ext.drew ?_ | refine Ext.drewN ?_ _))⟩

/-- A slice that was just built. -/
theorem arr_lit {w : World} {e : TypeId} (l : List Int) (hl : l.length ≤ 1000) : Arr (w.alloc (.cells (l.map (Value.int .i64)).toArray e)) (w.alloc (.cells (l.map (Value.int .i64)).toArray e)).heap.size (some ⟨w.heap.size, 0, none⟩) l.length l := by
  refine ⟨Nat.le_refl _, by unfold maxLen; omega, fun _ => ⟨w.heap.size, 0, rfl, by simp, fun i x hx => ⟨[.int .i64 x], rfl, fun j u hj => ?_⟩⟩⟩
  cases j with
  | zero =>
    have : u = .int .i64 x := by simpa using hj.symm
    subst this
    rw [World.cell?_alloc_new]
    simp [Cells.size, hx]
  | succ j => simp at hj
theorem from1_c (lo hi x : Int) (b : Nat) (e : TypeId) (w : World) (hb : b = w.heap.size) : Calls Try.prog 50 #[.int .i64 lo, .int .i64 hi, .slice (some ⟨b, 0, none⟩) 1 1] (w.alloc (.cells #[.int .i64 x] e)) fun e' w' => e' = .returned (.bool (fromB lo hi [x])) ∧ Ext (w.alloc (.cells #[.int .i64 x] e)) w' := by
  subst hb
  exact from_c lo hi _ 1 [x] _ (arr_lit [x] (by simp))
theorem from4_c (lo hi x y z u : Int) (b : Nat) (e : TypeId) (w : World) (hb : b = w.heap.size) : Calls Try.prog 50 #[.int .i64 lo, .int .i64 hi, .slice (some ⟨b, 0, none⟩) 4 4] (w.alloc (.cells #[.int .i64 x, .int .i64 y, .int .i64 z, .int .i64 u] e)) fun e' w' => e' = .returned (.bool (fromB lo hi [x, y, z, u])) ∧ Ext (w.alloc (.cells #[.int .i64 x, .int .i64 y, .int .i64 z, .int .i64 u] e)) w' := by
  subst hb
  exact from_c lo hi _ 4 [x, y, z, u] _ (arr_lit [x, y, z, u] (by simp))
end Go.Proofs.Ythpbjihnikapoaa
