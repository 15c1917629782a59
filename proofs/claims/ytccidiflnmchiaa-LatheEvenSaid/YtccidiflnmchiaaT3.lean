import Derived.Test.YtccidiflnmchiaaT2
namespace Go.Proofs.Ytccidiflnmchiaa
open Go.RowKit

theorem Sheet.err_ok {s : Sheet} (h : s.ok = true) : s.err = 0 := by
  have h' : s.err = if s.ok = true then 0 else 70 := rfl
  rw [h', if_pos h]
theorem Sheet.err_no {s : Sheet} (h : s.ok = false) : s.err = 70 := by
  have h' : s.err = if s.ok = true then 0 else 70 := rfl
  rw [h', if_neg (by rw [h]; decide)]
theorem Sheet.bounds {s : Sheet} (h : s.ok = true) : 1 ≤ s.cols ∧ s.cols ≤ 40 ∧ 1 ≤ s.rows ∧ s.rows ≤ 60 ∧ 1 ≤ s.weight ∧ s.weight ≤ 8 ∧ 0 ≤ s.clear ∧ s.clear ≤ 20 ∧ 0 ≤ s.lean ∧ s.lean ≤ 8 := by
  simp only [Sheet.ok, withinB, Bool.and_eq_true, decide_eq_true_eq] at h
  omega
theorem isLine_len {s : Sheet} {l : List Int} (h : isLineB s l = true) : (l.length : Int) = s.cols := by
  simp only [isLineB, Bool.and_eq_true, decide_eq_true_eq] at h
  exact h.2
theorem isLine_at {s : Sheet} {l : List Int} (h : isLineB s l = true) (j : Nat) (hj : j < l.length) : 0 ≤ nth l j ∧ nth l j ≤ s.rows - s.weight := by
  simp only [isLineB, Bool.and_eq_true, List.all_eq_true, List.mem_range] at h
  have := h.1 j hj
  simp only [lineAt, withinB, Bool.and_eq_true, decide_eq_true_eq] at this
  exact this.1
def geB (top bottom : List Int) : Bool := (List.range bottom.length).all fun j => decide (nth top j ≤ nth bottom j)
def curvesErr (s : Sheet) (top bottom : List Int) : Int :=
  if s.ok then (if isLineB s top && isLineB s bottom && geB top bottom then 0 else 2) else 70
theorem all_step {p : Nat → Prop} {k : Nat} (h : ∀ j, j < k → p j) (hk : p k) : ∀ j, j < k + 1 → p j := by
  intro j hj
  by_cases e : j = k
  · rw [e]; exact hk
  · exact h j (by omega)
theorem geB_no {top bottom : List Int} {k : Nat} (hk : k < bottom.length) (h : nth bottom k < nth top k) : geB top bottom = false := by
  unfold geB
  rw [List.all_eq_false]
  exact ⟨k, by simpa using hk, by simp; omega⟩
theorem geB_yes {top bottom : List Int} (h : ∀ j, j < bottom.length → nth top j ≤ nth bottom j) : geB top bottom = true := by
  unfold geB
  rw [List.all_eq_true]
  simpa using h
theorem geB_at {top bottom : List Int} (h : geB top bottom = true) (j : Nat) (hj : j < bottom.length) : nth top j ≤ nth bottom j := by
  simp only [geB, List.all_eq_true, List.mem_range, decide_eq_true_eq] at h
  exact h j hj

set_option maxHeartbeats 800000 in
theorem curves_c (s : Sheet) (A A' : Option Addr) (c c' : Nat) (top bottom : List Int) (w : World) (h : Arr w w.heap.size A c top) (h' : Arr w w.heap.size A' c' bottom) :
    Calls Try.prog 56 #[.agg #[.int .i64 s.cols, .int .i64 s.rows, .int .i64 s.weight, .int .i64 s.clear, .int .i64 s.lean], .slice A top.length c, .slice A' bottom.length c'] w fun e w' => e = .returned (.int .i64 (curvesErr s top bottom)) ∧ Ext w w' := by
  have hle := h.le
  have hle' := h'.le
  by_cases hs : s.ok = true
  · have he := Sheet.err_ok hs
    go_enter Try.func56, Try.ntmps56
    go_wp2_with fail
    refine (checkSheet_c _ _).mono ?_
    rintro e w1 ⟨rfl, g1, rfl⟩
    go_wp2_with fail
    refine (isLine_c s hs A c top _ (h.up (by repeat (first | exact Ext.refl _ | refine Ext.plus ?_ _ | refine Ext.alloc ?_ _ | refine Ext.drew ?_ | refine Ext.drewN ?_ _)))).mono ?_
    rintro e w1 ⟨rfl, g2, rfl⟩
    clear he
    cases h1 : isLineB s top
    · go_wp2
      go_ret
      exact ⟨ret_int (by simp [curvesErr, hs, h1]), (by repeat (first | exact Ext.refl _ | refine Ext.plus ?_ _ | refine Ext.alloc ?_ _ | refine Ext.drew ?_ | refine Ext.drewN ?_ _))⟩
    · go_wp2_with fail
      refine (isLine_c s hs A' c' bottom _ (h'.up (by repeat (first | exact Ext.refl _ | refine Ext.plus ?_ _ | refine Ext.alloc ?_ _ | refine Ext.drew ?_ | refine Ext.drewN ?_ _)))).mono ?_
      rintro e w1 ⟨rfl, g3, rfl⟩
      cases h2 : isLineB s bottom
      · go_wp2
        go_ret
        exact ⟨ret_int (by simp [curvesErr, hs, h1, h2]), (by repeat (first | exact Ext.refl _ | refine Ext.plus ?_ _ | refine Ext.alloc ?_ _ | refine Ext.drew ?_ | refine Ext.drewN ?_ _))⟩
      · have hl1 := isLine_len h1
        have hl2 := isLine_len h2
        have H1 : Hid _ := h1
        have H2 : Hid _ := h2
        have HL : Hid (top.length = bottom.length) := by show _ = _; omega
        clear h1 h2 hl1 hl2
        go_wp2
        go_loopw [27] (fun i wr => ∃ k : Nat, k ≤ bottom.length ∧ i = .int .i64 k ∧ Ext (w.alloc (.cells #[.int .i64 s.cols, .int .i64 s.rows, .int .i64 s.weight, .int .i64 s.clear, .int .i64 s.lean] 23)) wr ∧ Hid (∀ j, j < k → nth top j ≤ nth bottom j)) (fun i _ => bottom.length - (intOf i).toNat)
        case atStart => exact ⟨0, by omega, rfl, (by repeat (first | exact Ext.refl _ | refine Ext.plus ?_ _ | refine Ext.alloc ?_ _ | refine Ext.drew ?_ | refine Ext.drewN ?_ _)), fun j hj => by omega⟩
        case round =>
          obtain ⟨k, hk, rfl, ⟨g, rfl⟩, H⟩ := hrel
          by_cases hlt : k < bottom.length
          · have hlt' : k < top.length := by rw [HL.out]; exact hlt
            obtain ⟨b', off', rfl, hb', hc'⟩ := h'.int (by omega)
            obtain ⟨b, off, rfl, hb, hc⟩ := h.int (by omega)
            have hck := hc k hlt'
            have hck' := hc' k hlt
            clear hc hc'
            by_cases h3 : nth bottom k < nth top k
            · go_wp2
              go_ret
              exact ⟨ret_int (by simp [curvesErr, hs, H1.out, H2.out, geB_no hlt h3]), (by repeat (first | exact Ext.refl _ | refine Ext.plus ?_ _ | refine Ext.alloc ?_ _ | refine Ext.drew ?_ | refine Ext.drewN ?_ _))⟩
            · go_wp2
              go_roundw
              case rel => exact ⟨k + 1, by omega, by go_num, (by repeat (first | exact Ext.refl _ | refine Ext.plus ?_ _ | refine Ext.alloc ?_ _ | refine Ext.drew ?_ | refine Ext.drewN ?_ _)), all_step H.out (by omega)⟩
              case measure => simp [intOf]; omega
          · obtain rfl : k = bottom.length := by omega
            go_wp2
            go_ret
            exact ⟨ret_int (by simp [curvesErr, hs, H1.out, H2.out, geB_yes H.out]), (by repeat (first | exact Ext.refl _ | refine Ext.plus ?_ _ | refine Ext.alloc ?_ _ | refine Ext.drew ?_ | refine Ext.drewN ?_ _))⟩
  · have he := Sheet.err_no (by simpa using hs)
    go_enter Try.func56, Try.ntmps56
    go_wp2_with fail
    refine (checkSheet_c _ _).mono ?_
    rintro e w1 ⟨rfl, g1, rfl⟩
    go_wp2
    go_ret
    exact ⟨ret_int (by simp [curvesErr, hs]), (by repeat (first | exact Ext.refl _ | refine Ext.plus ?_ _ | refine Ext.alloc ?_ _ | refine Ext.drew ?_ | refine Ext.drewN ?_ _))⟩

def fitAt (s : Sheet) (top bottom : List Int) (j : Nat) : Int := (nth bottom j - nth top j) / (s.weight + s.clear) + 1
def fitTo (s : Sheet) (top bottom : List Int) : Nat → Int
  | 0 => 12
  | k + 1 => if fitAt s top bottom k < fitTo s top bottom k then fitAt s top bottom k else fitTo s top bottom k
theorem fitTo_le (s : Sheet) (top bottom : List Int) : ∀ k, fitTo s top bottom k ≤ 12
  | 0 => by simp [fitTo]
  | k + 1 => by unfold fitTo; have := fitTo_le s top bottom k; split <;> omega

set_option maxHeartbeats 800000 in
theorem fit_c (s : Sheet) (hs : s.ok = true) (A A' : Option Addr) (c c' : Nat) (top bottom : List Int) (w : World) (h : Arr w w.heap.size A c top) (h' : Arr w w.heap.size A' c' bottom)
    (hlt : isLineB s top = true) (hlb : isLineB s bottom = true) (hge : geB top bottom = true) :
    Calls Try.prog 58 #[.agg #[.int .i64 s.cols, .int .i64 s.rows, .int .i64 s.weight, .int .i64 s.clear, .int .i64 s.lean], .slice A top.length c, .slice A' bottom.length c'] w fun e w' => e = .returned (.int .i64 (fitTo s top bottom bottom.length)) ∧ Ext w w' := by
  have hle := h.le
  have hle' := h'.le
  have HT := isLine_at hlt
  have HB := isLine_at hlb
  have HL : Hid (top.length = bottom.length) := by show _ = _; have := isLine_len hlt; have := isLine_len hlb; omega
  have HG := geB_at hge
  obtain ⟨_, _, _, _, _, _, _, _, _, _⟩ := Sheet.bounds hs
  clear hlt hlb hge
  have HT : Hid _ := HT
  have HB : Hid _ := HB
  have HG : Hid _ := HG
  go_enter Try.func58, Try.ntmps58
  go_wp2
  go_loopw [7, 12] (fun m i wr => ∃ k : Nat, k ≤ bottom.length ∧ i = .int .i64 k ∧ m = .int .i64 (fitTo s top bottom k) ∧ Ext (w.alloc (.cells #[.int .i64 s.cols, .int .i64 s.rows, .int .i64 s.weight, .int .i64 s.clear, .int .i64 s.lean] 23)) wr) (fun _ i _ => bottom.length - (intOf i).toNat)
  case atStart => exact ⟨0, by omega, rfl, rfl, (by repeat (first | exact Ext.refl _ | refine Ext.plus ?_ _ | refine Ext.alloc ?_ _ | refine Ext.drew ?_ | refine Ext.drewN ?_ _))⟩
  case round =>
    obtain ⟨k, hk, rfl, rfl, ⟨g, rfl⟩⟩ := hrel
    by_cases hlt : k < bottom.length
    · have hlt' : k < top.length := by rw [HL.out]; exact hlt
      obtain ⟨b', off', rfl, hb', hc'⟩ := h'.int (by omega)
      obtain ⟨b, off, rfl, hb, hc⟩ := h.int (by omega)
      have hck := hc k hlt'
      have hck' := hc' k hlt
      have := HT.out k hlt'
      have := HB.out k hlt
      have := HG.out k hlt
      have := fitTo_le s top bottom k
      clear hc hc'
      have hq : 0 ≤ (nth bottom k - nth top k) / (s.weight + s.clear) := Int.ediv_nonneg (by omega) (by omega)
      have hq' : (nth bottom k - nth top k) / (s.weight + s.clear) ≤ 60 := Int.le_trans (Int.ediv_le_self _ (by omega)) (by omega)
      go_wp2
      (refine region_more (by kernel_rfl) (by kernel_rfl) ?_; (repeat (first | go_big_quiet_skip | (go_big_quiet_want; go_big_quiet_op; first | go_big_quiet_on | (apply Exists.intro; refine ⟨fun _ => ?_, ?_⟩; (focus ((fail); done)); go_big_quiet_on)))); refine wpQuiet_nil ?_; rintro _ ⟨gq, rfl⟩)
      go_wp2
      go_roundw
      case rel => exact ⟨k + 1, by omega, by go_num, rfl, (by repeat (first | exact Ext.refl _ | refine Ext.plus ?_ _ | refine Ext.alloc ?_ _ | refine Ext.drew ?_ | refine Ext.drewN ?_ _))⟩
      case measure => simp [intOf]; omega
    · obtain rfl : k = bottom.length := by omega
      go_wp2
      go_ret
      exact ⟨rfl, (by repeat (first | exact Ext.refl _ | refine Ext.plus ?_ _ | refine Ext.alloc ?_ _ | refine Ext.drew ?_ | refine Ext.drewN ?_ _))⟩
end Go.Proofs.Ytccidiflnmchiaa
