import Derived.Test.YtccidiflnmchiaaT5
namespace Go.Proofs.Ytccidiflnmchiaa
open Go.RowKit

set_option maxHeartbeats 400000 in
theorem rwithin_c (n lo hi : Int) (w : World) : Calls Try.prog 61 #[.int .i64 n, .int .i64 lo, .int .i64 hi] w fun e w' => e = .returned (.bool (withinB n lo hi)) ∧ w = w' := by
  go_enter Try.func61, Try.ntmps61
  go_wp2
  all_goals (go_ret; refine ⟨ret_bool ?_, rfl⟩; go_light; grind [withinB])
theorem rwithin_x (n lo hi : Int) (w : World) : Calls Try.prog 61 #[.int .i64 n, .int .i64 lo, .int .i64 hi] w fun e w' => e = .returned (.bool (withinB n lo hi)) ∧ Ext w w' :=
  (rwithin_c n lo hi w).mono fun _ _ ⟨a, b⟩ => ⟨a, b ▸ Ext.refl _⟩
set_option maxHeartbeats 400000 in
theorem rsheet_c (s : Sheet) (w : World) : Calls Try.prog 59 #[.agg #[.int .i64 s.cols, .int .i64 s.rows, .int .i64 s.weight, .int .i64 s.clear, .int .i64 s.lean]] w fun e w' => e = .returned (.bool s.ok) ∧ Ext w w' := by
  go_enter Try.func59, Try.ntmps59
  go_wp2_with ((go_at_call 61; refine (rwithin_c _ _ _ _).mono ?_; rintro e w' ⟨rfl, rfl⟩))
  all_goals (go_ret; refine ⟨ret_bool ?_, (Ext.refl _).alloc _⟩; go_light; grind [Sheet.ok])

set_option maxHeartbeats 800000 in
theorem rline_c (s : Sheet) (hs : s.ok = true) (A : Option Addr) (c : Nat) (l : List Int) (w : World) (h : Arr w w.heap.size A c l) :
    Calls Try.prog 90 #[.agg #[.int .i64 s.cols, .int .i64 s.rows, .int .i64 s.weight, .int .i64 s.clear, .int .i64 s.lean], .slice A l.length c] w fun e w' => e = .returned (.bool (isLineB s l)) ∧ Ext w w' := by
  have hle := h.le
  obtain ⟨_, _, _, _, _, _, _, _, _, _⟩ := Sheet.bounds hs
  by_cases hl : (l.length : Int) = s.cols
  · have HL : Hid _ := hl
    clear hl
    have hne : ((l.length : Int) != s.cols) = false := by rw [bne_eq_false_iff_eq]; exact HL.out
    go_enter Try.func90, Try.ntmps90
    go_wp2
    clear hne
    go_loopw [5] (fun i wr => ∃ k : Nat, k ≤ l.length ∧ i = .int .i64 k ∧ Ext (w.alloc (.cells #[.int .i64 s.cols, .int .i64 s.rows, .int .i64 s.weight, .int .i64 s.clear, .int .i64 s.lean] 23)) wr ∧ Hid (∀ j, j < k → lineAt s l j = true)) (fun i _ => l.length - (intOf i).toNat)
    case atStart => exact ⟨0, by omega, rfl, (by repeat (first | exact Ext.refl _ | refine Ext.plus ?_ _ | refine Ext.alloc ?_ _ | refine Ext.drew ?_ | refine Ext.drewN ?_ _)), fun j hj => by omega⟩
    case round =>
      obtain ⟨k, hk, rfl, ⟨g, rfl⟩, H⟩ := hrel
      by_cases hlt : k < l.length
      · obtain ⟨b, off, rfl, hb, hc⟩ := h.int (by omega)
        have hck := hc k hlt
        have hck1 := hc (k - 1) (by omega)
        clear hc
        go_wp2
        by_cases h1 : withinB (nth l k) 0 (s.rows - s.weight) = true
        · have h1' := h1
          simp only [withinB, Bool.and_eq_true, decide_eq_true_eq] at h1'
          obtain ⟨_, _⟩ := h1'
          by_cases h2 : 0 < k
          · have hp := H.out (k - 1) (by omega)
            simp only [lineAt, withinB, Bool.and_eq_true, decide_eq_true_eq] at hp
            obtain ⟨⟨_, _⟩, _⟩ := hp
            by_cases h3 : withinB (nth l k - nth l (k - 1)) (-s.lean) s.lean = true
            · (refine region_more (by kernel_rfl) (by kernel_rfl) ?_; (repeat (first | go_big_quiet_skip | (go_big_quiet_want; go_big_quiet_op; first | go_big_quiet_on | (apply Exists.intro; refine ⟨fun _ => ?_, ?_⟩; (focus (((go_at_call 61; first | exact in_more2 (rwithin_x _ _ _ _) | exact in_more (rwithin_x _ _ _ _))); done)); go_big_quiet_on)))); refine wpQuiet_nil ?_; rintro _ ⟨gq, rfl⟩)
              go_wp2
              go_roundw
              case rel => exact ⟨k + 1, by omega, by go_num, (by repeat (first | exact Ext.refl _ | refine Ext.plus ?_ _ | refine Ext.alloc ?_ _ | refine Ext.drew ?_ | refine Ext.drewN ?_ _)), isLine_step H.out (by simp [lineAt, h1, h3])⟩
              case measure => simp [intOf]; omega
            · rw [Bool.not_eq_true] at h3
              have hf : isLineB s l = false := isLine_no hlt (by simp [lineAt, h3]; omega)
              have Hf : Hid _ := hf
              clear hf
              (refine region_more (by kernel_rfl) (by kernel_rfl) ?_; (repeat (first | go_big_quiet_skip | (go_big_quiet_want; go_big_quiet_op; first | go_big_quiet_on | (apply Exists.intro; refine ⟨fun _ => ?_, ?_⟩; (focus (((go_at_call 61; first | exact in_more2 (rwithin_x _ _ _ _) | exact in_more (rwithin_x _ _ _ _))); done)); go_big_quiet_on)))); refine wpQuiet_nil ?_; rintro _ ⟨gq, rfl⟩)
              go_wp2
              go_ret
              exact ⟨ret_bool Hf.out.symm, (by repeat (first | exact Ext.refl _ | refine Ext.plus ?_ _ | refine Ext.alloc ?_ _ | refine Ext.drew ?_ | refine Ext.drewN ?_ _))⟩
          · have h2' : decide ((0 : Int) < (k : Int)) = false := by simp; omega
            (refine region_more (by kernel_rfl) (by kernel_rfl) ?_; (repeat (first | go_big_quiet_skip | (go_big_quiet_want; go_big_quiet_op; first | go_big_quiet_on | (apply Exists.intro; refine ⟨fun _ => ?_, ?_⟩; (focus (((go_at_call 61; first | exact in_more2 (rwithin_x _ _ _ _) | exact in_more (rwithin_x _ _ _ _))); done)); go_big_quiet_on)))); refine wpQuiet_nil ?_; rintro _ ⟨gq, rfl⟩)
            go_wp2
            go_roundw
            case rel => exact ⟨k + 1, by omega, by go_num, (by repeat (first | exact Ext.refl _ | refine Ext.plus ?_ _ | refine Ext.alloc ?_ _ | refine Ext.drew ?_ | refine Ext.drewN ?_ _)), isLine_step H.out (by simp [lineAt, h1]; omega)⟩
            case measure => simp [intOf]; omega
        · rw [Bool.not_eq_true] at h1
          have hf : isLineB s l = false := isLine_no hlt (by simp [lineAt, h1])
          have Hf : Hid _ := hf
          clear hf
          (refine region_more (by kernel_rfl) (by kernel_rfl) ?_; (repeat (first | go_big_quiet_skip | (go_big_quiet_want; go_big_quiet_op; first | go_big_quiet_on | (apply Exists.intro; refine ⟨fun _ => ?_, ?_⟩; (focus (((go_at_call 61; first | exact in_more2 (rwithin_x _ _ _ _) | exact in_more (rwithin_x _ _ _ _))); done)); go_big_quiet_on)))); refine wpQuiet_nil ?_; rintro _ ⟨gq, rfl⟩)
          go_wp2
          go_ret
          exact ⟨ret_bool Hf.out.symm, (by repeat (first | exact Ext.refl _ | refine Ext.plus ?_ _ | refine Ext.alloc ?_ _ | refine Ext.drew ?_ | refine Ext.drewN ?_ _))⟩
      · obtain rfl : k = l.length := by omega
        go_wp2
        go_ret
        exact ⟨ret_bool ((isLine_yes H.out).trans (decide_eq_true HL.out)).symm, (by repeat (first | exact Ext.refl _ | refine Ext.plus ?_ _ | refine Ext.alloc ?_ _ | refine Ext.drew ?_ | refine Ext.drewN ?_ _))⟩
  · have hne : ((l.length : Int) != s.cols) = true := by rw [bne_iff_ne]; exact hl
    have Hf : Hid (isLineB s l = false) := by show _ = _; unfold isLineB; rw [decide_eq_false hl, Bool.and_false]
    clear hl
    go_enter Try.func90, Try.ntmps90
    go_wp2
    go_ret
    exact ⟨ret_bool Hf.out.symm, (by repeat (first | exact Ext.refl _ | refine Ext.plus ?_ _ | refine Ext.alloc ?_ _ | refine Ext.drew ?_ | refine Ext.drewN ?_ _))⟩

def linesB (s : Sheet) (b : List (List Int)) : Bool := b.all (isLineB s)
theorem row_eq {α : Type} {b : List (List α)} {k : Nat} (h : k < b.length) : row b k = b[k] := by simp [row, h]
theorem linesB_no {s : Sheet} {b : List (List Int)} {k : Nat} (hk : k < b.length) (h : isLineB s (row b k) = false) : linesB s b = false := by
  unfold linesB
  rw [List.all_eq_false]
  exact ⟨b[k], List.getElem_mem _, by rw [← row_eq hk, h]; decide⟩
theorem linesB_yes {s : Sheet} {b : List (List Int)} (h : ∀ j, j < b.length → isLineB s (row b j) = true) : linesB s b = true := by
  unfold linesB
  rw [List.all_eq_true]
  intro x hx
  obtain ⟨i, hi, rfl⟩ := List.getElem_of_mem hx
  rw [← row_eq hi]
  exact h i hi
theorem linesB_at {s : Sheet} {b : List (List Int)} (h : linesB s b = true) (j : Nat) (hj : j < b.length) : isLineB s (row b j) = true := by
  unfold linesB at h
  rw [List.all_eq_true] at h
  rw [row_eq hj]
  exact h _ (List.getElem_mem _)

set_option maxHeartbeats 800000 in
theorem rlines_c (s : Sheet) (hs : s.ok = true) (A : Option Addr) (c : Nat) (b : List (List Int)) (w : World) (h : Arr w w.heap.size A c b) :
    Calls Try.prog 66 #[.agg #[.int .i64 s.cols, .int .i64 s.rows, .int .i64 s.weight, .int .i64 s.clear, .int .i64 s.lean], .slice A b.length c] w fun e w' => e = .returned (.bool (linesB s b)) ∧ Ext w w' := by
  have hle := h.le
  go_enter Try.func66, Try.ntmps66
  go_wp2
  go_loopw [5] (fun i wr => ∃ k : Nat, k ≤ b.length ∧ i = .int .i64 k ∧ Ext (w.alloc (.cells #[.int .i64 s.cols, .int .i64 s.rows, .int .i64 s.weight, .int .i64 s.clear, .int .i64 s.lean] 23)) wr ∧ Hid (∀ j, j < k → isLineB s (row b j) = true)) (fun i _ => b.length - (intOf i).toNat)
  case atStart => exact ⟨0, by omega, rfl, (by repeat (first | exact Ext.refl _ | refine Ext.plus ?_ _ | refine Ext.alloc ?_ _ | refine Ext.drew ?_ | refine Ext.drewN ?_ _)), fun j hj => by omega⟩
  case round =>
    obtain ⟨k, hk, rfl, ⟨g, rfl⟩, H⟩ := hrel
    by_cases hlt : k < b.length
    · obtain ⟨bb, off, rfl, hb, hc⟩ := h.rows (by omega)
      obtain ⟨Ai, ci, hck, hrow⟩ := hc k hlt
      clear hc
      go_wp2
      cases h1 : isLineB s (row b k)
      · (refine region_more (by kernel_rfl) (by kernel_rfl) ?_; (repeat (first | go_big_quiet_skip | (go_big_quiet_want; go_big_quiet_op; first | go_big_quiet_on | (apply Exists.intro; refine ⟨fun _ => ?_, ?_⟩; (focus (((go_at_call 90; first | exact in_more2 (rline_c s hs Ai ci (row b k) _ (hrow.up (by repeat (first | exact Ext.refl _ | refine Ext.plus ?_ _ | refine Ext.alloc ?_ _ | refine Ext.drew ?_ | refine Ext.drewN ?_ _)))) | exact in_more (rline_c s hs Ai ci (row b k) _ (hrow.up (by repeat (first | exact Ext.refl _ | refine Ext.plus ?_ _ | refine Ext.alloc ?_ _ | refine Ext.drew ?_ | refine Ext.drewN ?_ _)))))); done)); go_big_quiet_on)))); refine wpQuiet_nil ?_; rintro _ ⟨gq, rfl⟩)
        go_wp2
        go_ret
        exact ⟨ret_bool (linesB_no hlt h1).symm, (by repeat (first | exact Ext.refl _ | refine Ext.plus ?_ _ | refine Ext.alloc ?_ _ | refine Ext.drew ?_ | refine Ext.drewN ?_ _))⟩
      · (refine region_more (by kernel_rfl) (by kernel_rfl) ?_; (repeat (first | go_big_quiet_skip | (go_big_quiet_want; go_big_quiet_op; first | go_big_quiet_on | (apply Exists.intro; refine ⟨fun _ => ?_, ?_⟩; (focus (((go_at_call 90; first | exact in_more2 (rline_c s hs Ai ci (row b k) _ (hrow.up (by repeat (first | exact Ext.refl _ | refine Ext.plus ?_ _ | refine Ext.alloc ?_ _ | refine Ext.drew ?_ | refine Ext.drewN ?_ _)))) | exact in_more (rline_c s hs Ai ci (row b k) _ (hrow.up (by repeat (first | exact Ext.refl _ | refine Ext.plus ?_ _ | refine Ext.alloc ?_ _ | refine Ext.drew ?_ | refine Ext.drewN ?_ _)))))); done)); go_big_quiet_on)))); refine wpQuiet_nil ?_; rintro _ ⟨gq, rfl⟩)
        go_wp2
        go_roundw
        case rel => exact ⟨k + 1, by omega, by go_num, (by repeat (first | exact Ext.refl _ | refine Ext.plus ?_ _ | refine Ext.alloc ?_ _ | refine Ext.drew ?_ | refine Ext.drewN ?_ _)), all_step H.out h1⟩
        case measure => simp [intOf]; omega
    · obtain rfl : k = b.length := by omega
      go_wp2
      go_ret
      exact ⟨ret_bool (linesB_yes H.out).symm, (by repeat (first | exact Ext.refl _ | refine Ext.plus ?_ _ | refine Ext.alloc ?_ _ | refine Ext.drew ?_ | refine Ext.drewN ?_ _))⟩

/-- The first column in which two lines come too near to each other; -1: none. -/
def nearAt (s : Sheet) (a b : List Int) (j : Nat) : Bool := decide (nth b j - nth a j < s.weight + s.clear)
def clashF (s : Sheet) (a b : List Int) : Int := match (List.range s.cols.toNat).find? (nearAt s a b) with | some j => (j : Int) | none => -1
theorem clashF_at {s : Sheet} {a b : List Int} {k : Nat} (hk : (k : Int) < s.cols) (h0 : ∀ j, j < k → nearAt s a b j = false) (h : nearAt s a b k = true) : clashF s a b = k := by
  have : (List.range s.cols.toNat).find? (nearAt s a b) = some k := by
    rw [List.find?_range_eq_some]
    exact ⟨h, by simp; omega, fun j hj => by simp [h0 j hj]⟩
  unfold clashF
  rw [this]
theorem clashF_none {s : Sheet} {a b : List Int} (h0 : ∀ j : Nat, (j : Int) < s.cols → nearAt s a b j = false) : clashF s a b = -1 := by
  have : (List.range s.cols.toNat).find? (nearAt s a b) = none := by
    rw [List.find?_eq_none]
    intro j hj
    rw [List.mem_range] at hj
    simp [h0 j (by omega)]
  unfold clashF
  rw [this]

set_option maxHeartbeats 800000 in
theorem rclash_c (s : Sheet) (hs : s.ok = true) (A A' : Option Addr) (c c' : Nat) (a b : List Int) (w : World) (h : Arr w w.heap.size A c a) (h' : Arr w w.heap.size A' c' b) (ha : isLineB s a = true) (hb : isLineB s b = true) :
    Calls Try.prog 67 #[.agg #[.int .i64 s.cols, .int .i64 s.rows, .int .i64 s.weight, .int .i64 s.clear, .int .i64 s.lean], .slice A a.length c, .slice A' b.length c'] w fun e w' => e = .returned (.int .i64 (clashF s a b)) ∧ Ext w w' := by
  have hle := h.le
  have hle' := h'.le
  have HA : Hid _ := isLine_at ha
  have HB : Hid _ := isLine_at hb
  have LA : Hid _ := isLine_len ha
  have LB : Hid _ := isLine_len hb
  obtain ⟨_, _, _, _, _, _, _, _, _, _⟩ := Sheet.bounds hs
  clear ha hb
  go_enter Try.func67, Try.ntmps67
  go_wp2
  go_loopw [7] (fun i wr => ∃ k : Nat, (k : Int) ≤ s.cols ∧ i = .int .i64 k ∧ Ext (w.alloc (.cells #[.int .i64 s.cols, .int .i64 s.rows, .int .i64 s.weight, .int .i64 s.clear, .int .i64 s.lean] 23)) wr ∧ Hid (∀ j, j < k → nearAt s a b j = false)) (fun i _ => s.cols.toNat - (intOf i).toNat)
  case atStart => exact ⟨0, by omega, rfl, (by repeat (first | exact Ext.refl _ | refine Ext.plus ?_ _ | refine Ext.alloc ?_ _ | refine Ext.drew ?_ | refine Ext.drewN ?_ _)), fun j hj => by omega⟩
  case round =>
    obtain ⟨k, hk, rfl, ⟨g, rfl⟩, H⟩ := hrel
    by_cases hlt : (k : Int) < s.cols
    · have hlb : k < b.length := by have := LB.out; omega
      have hla : k < a.length := by have := LA.out; omega
      obtain ⟨b', off', rfl, hb', hc'⟩ := h'.int (by omega)
      obtain ⟨b0, off, rfl, hb, hc⟩ := h.int (by omega)
      have hck := hc k hla
      have hck' := hc' k hlb
      have := HA.out k hla
      have := HB.out k hlb
      clear hc hc'
      by_cases h1 : nth b k - nth a k < s.weight + s.clear
      · go_wp2
        (refine region_more (by kernel_rfl) (by kernel_rfl) ?_; (repeat (first | go_big_quiet_skip | (go_big_quiet_want; go_big_quiet_op; first | go_big_quiet_on | (apply Exists.intro; refine ⟨fun _ => ?_, ?_⟩; (focus ((fail); done)); go_big_quiet_on)))); refine wpQuiet_nil ?_; rintro _ ⟨gq, rfl⟩)
        go_wp2
        go_ret
        exact ⟨ret_int (clashF_at (by omega) H.out (by simp [nearAt]; omega)).symm, (by repeat (first | exact Ext.refl _ | refine Ext.plus ?_ _ | refine Ext.alloc ?_ _ | refine Ext.drew ?_ | refine Ext.drewN ?_ _))⟩
      · go_wp2
        (refine region_more (by kernel_rfl) (by kernel_rfl) ?_; (repeat (first | go_big_quiet_skip | (go_big_quiet_want; go_big_quiet_op; first | go_big_quiet_on | (apply Exists.intro; refine ⟨fun _ => ?_, ?_⟩; (focus ((fail); done)); go_big_quiet_on)))); refine wpQuiet_nil ?_; rintro _ ⟨gq, rfl⟩)
        go_wp2
        go_roundw
        case rel => exact ⟨k + 1, by omega, by go_num, (by repeat (first | exact Ext.refl _ | refine Ext.plus ?_ _ | refine Ext.alloc ?_ _ | refine Ext.drew ?_ | refine Ext.drewN ?_ _)), all_step H.out (by simp [nearAt]; omega)⟩
        case measure => simp [intOf]; omega
    · go_wp2
      go_ret
      exact ⟨ret_int (clashF_none fun j hj => H.out j (by omega)).symm, (by repeat (first | exact Ext.refl _ | refine Ext.plus ?_ _ | refine Ext.alloc ?_ _ | refine Ext.drew ?_ | refine Ext.drewN ?_ _))⟩
end Go.Proofs.Ytccidiflnmchiaa
