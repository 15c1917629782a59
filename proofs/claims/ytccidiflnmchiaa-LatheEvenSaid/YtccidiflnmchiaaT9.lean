import Derived.Test.YtccidiflnmchiaaT8
namespace Go.Proofs.Ytccidiflnmchiaa
open Go.RowKit

theorem bandB_many {s : Sheet} {b : List (List Int)} (h : 12 < b.length) : bandB s b = false := by
  unfold bandB
  rw [decide_eq_false (by omega)]
  simp
theorem bandB_lines {s : Sheet} {b : List (List Int)} (h : linesB s b = false) : bandB s b = false := by
  unfold bandB
  rw [h]
  simp
theorem bandB_no {s : Sheet} {b : List (List Int)} {k : Nat} (hk : k + 1 < b.length) (h : ¬ clashF s (row b k) (row b (k + 1)) < 0) : bandB s b = false := by
  unfold bandB
  rw [Bool.and_eq_false_iff]
  right
  rw [List.all_eq_false]
  exact ⟨k, by simp; omega, by simpa using h⟩
theorem bandB_yes {s : Sheet} {b : List (List Int)} (h : b.length ≤ 12) (hl : linesB s b = true) (hc : ∀ j, j + 1 < b.length → clashF s (row b j) (row b (j + 1)) < 0) : bandB s b = true := by
  unfold bandB
  rw [Bool.and_eq_true, Bool.and_eq_true]
  exact ⟨⟨by simpa using h, hl⟩, by rw [List.all_eq_true]; intro i hi; rw [List.mem_range] at hi; simpa using hc i (by omega)⟩

set_option maxHeartbeats 1600000 in
theorem rband_c (s : Sheet) (hs : s.ok = true) (A : Option Addr) (c : Nat) (b : List (List Int)) (w : World) (h : Arr w w.heap.size A c b) :
    Calls Try.prog 63 #[.agg #[.int .i64 s.cols, .int .i64 s.rows, .int .i64 s.weight, .int .i64 s.clear, .int .i64 s.lean], .slice A b.length c] w fun e w' => e = .returned (.bool (bandB s b)) ∧ Ext w w' := by
  have hle := h.le
  by_cases h12 : 12 < b.length
  · have h12' : (12 : Int) < (b.length : Int) := by omega
    go_enter Try.func63, Try.ntmps63
    go_wp2
    go_ret
    exact ⟨ret_bool (bandB_many h12).symm, (by repeat (first | exact Ext.refl _ | refine Ext.plus ?_ _ | refine Ext.alloc ?_ _ | refine Ext.drew ?_ | refine Ext.drewN ?_ _))⟩
  · have h12' : ¬ (12 : Int) < (b.length : Int) := by omega
    cases hl : linesB s b
    · go_enter Try.func63, Try.ntmps63
      go_wp2_with fail
      refine (rlines_c s hs A c b _ (h.up (by repeat (first | exact Ext.refl _ | refine Ext.plus ?_ _ | refine Ext.alloc ?_ _ | refine Ext.drew ?_ | refine Ext.drewN ?_ _)))).mono ?_
      rintro e w1 ⟨rfl, g1, rfl⟩
      go_wp2
      go_ret
      exact ⟨ret_bool (bandB_lines hl).symm, (by repeat (first | exact Ext.refl _ | refine Ext.plus ?_ _ | refine Ext.alloc ?_ _ | refine Ext.drew ?_ | refine Ext.drewN ?_ _))⟩
    · have HL : Hid _ := hl
      clear hl
      go_enter Try.func63, Try.ntmps63
      go_wp2_with fail
      refine (rlines_c s hs A c b _ (h.up (by repeat (first | exact Ext.refl _ | refine Ext.plus ?_ _ | refine Ext.alloc ?_ _ | refine Ext.drew ?_ | refine Ext.drewN ?_ _)))).mono ?_
      rintro e w1 ⟨rfl, g1, rfl⟩
      rw [HL.out]
      go_wp2
      go_loopw [5] (fun i wr => ∃ k : Nat, 1 ≤ k ∧ (k ≤ b.length ∨ k = 1) ∧ i = .int .i64 k ∧ Ext (w.alloc (.cells #[.int .i64 s.cols, .int .i64 s.rows, .int .i64 s.weight, .int .i64 s.clear, .int .i64 s.lean] 23)) wr ∧ Hid (∀ j, j + 1 < k → clashF s (row b j) (row b (j + 1)) < 0)) (fun i _ => b.length - (intOf i).toNat)
      case atStart => exact ⟨1, by omega, by omega, rfl, (by repeat (first | exact Ext.refl _ | refine Ext.plus ?_ _ | refine Ext.alloc ?_ _ | refine Ext.drew ?_ | refine Ext.drewN ?_ _)), fun j hj => by omega⟩
      case round =>
        obtain ⟨k, hk1, hk, rfl, ⟨g, rfl⟩, H⟩ := hrel
        by_cases hlt : k < b.length
        · obtain ⟨bb, off, rfl, hb, hc⟩ := h.rows (by omega)
          obtain ⟨j, rfl⟩ : ∃ j, k = j + 1 := ⟨k - 1, by omega⟩
          obtain ⟨Ai, ci, hck, hrow⟩ := hc (j + 1) hlt
          obtain ⟨Aj, cj, hcj, hrowj⟩ := hc j (by omega)
          have HA : Hid _ := linesB_at HL.out (j + 1) hlt
          have HB : Hid _ := linesB_at HL.out j (by omega)
          clear hc
          by_cases h1 : clashF s (row b j) (row b (j + 1)) < 0
          · go_wp2
            (refine region_more (by kernel_rfl) (by kernel_rfl) ?_; (repeat (first | go_big_quiet_skip | (go_big_quiet_want; go_big_quiet_op; first | go_big_quiet_on | (apply Exists.intro; refine ⟨fun _ => ?_, ?_⟩; (focus (((go_at_call 67; first | exact in_more2 (rclash_c s hs Aj Ai cj ci (row b j) (row b (j + 1)) _ (hrowj.up (by repeat (first | exact Ext.refl _ | refine Ext.plus ?_ _ | refine Ext.alloc ?_ _ | refine Ext.drew ?_ | refine Ext.drewN ?_ _))) (hrow.up (by repeat (first | exact Ext.refl _ | refine Ext.plus ?_ _ | refine Ext.alloc ?_ _ | refine Ext.drew ?_ | refine Ext.drewN ?_ _))) HB.out HA.out) | exact in_more (rclash_c s hs Aj Ai cj ci (row b j) (row b (j + 1)) _ (hrowj.up (by repeat (first | exact Ext.refl _ | refine Ext.plus ?_ _ | refine Ext.alloc ?_ _ | refine Ext.drew ?_ | refine Ext.drewN ?_ _))) (hrow.up (by repeat (first | exact Ext.refl _ | refine Ext.plus ?_ _ | refine Ext.alloc ?_ _ | refine Ext.drew ?_ | refine Ext.drewN ?_ _))) HB.out HA.out))); done)); go_big_quiet_on)))); refine wpQuiet_nil ?_; rintro _ ⟨gq, rfl⟩)
            go_wp2
            go_roundw
            case rel => exact ⟨j + 2, by omega, by omega, by go_num, (by repeat (first | exact Ext.refl _ | refine Ext.plus ?_ _ | refine Ext.alloc ?_ _ | refine Ext.drew ?_ | refine Ext.drewN ?_ _)), fun x hx => by
              by_cases hxj : x = j
              · subst hxj; exact h1
              · exact H.out x (by omega)⟩
            case measure => simp [intOf]; omega
          · go_wp2
            (refine region_more (by kernel_rfl) (by kernel_rfl) ?_; (repeat (first | go_big_quiet_skip | (go_big_quiet_want; go_big_quiet_op; first | go_big_quiet_on | (apply Exists.intro; refine ⟨fun _ => ?_, ?_⟩; (focus (((go_at_call 67; first | exact in_more2 (rclash_c s hs Aj Ai cj ci (row b j) (row b (j + 1)) _ (hrowj.up (by repeat (first | exact Ext.refl _ | refine Ext.plus ?_ _ | refine Ext.alloc ?_ _ | refine Ext.drew ?_ | refine Ext.drewN ?_ _))) (hrow.up (by repeat (first | exact Ext.refl _ | refine Ext.plus ?_ _ | refine Ext.alloc ?_ _ | refine Ext.drew ?_ | refine Ext.drewN ?_ _))) HB.out HA.out) | exact in_more (rclash_c s hs Aj Ai cj ci (row b j) (row b (j + 1)) _ (hrowj.up (by repeat (first | exact Ext.refl _ | refine Ext.plus ?_ _ | refine Ext.alloc ?_ _ | refine Ext.drew ?_ | refine Ext.drewN ?_ _))) (hrow.up (by repeat (first | exact Ext.refl _ | refine Ext.plus ?_ _ | refine Ext.alloc ?_ _ | refine Ext.drew ?_ | refine Ext.drewN ?_ _))) HB.out HA.out))); done)); go_big_quiet_on)))); refine wpQuiet_nil ?_; rintro _ ⟨gq, rfl⟩)
            go_wp2
            go_ret
            exact ⟨ret_bool (bandB_no hlt (by omega)).symm, (by repeat (first | exact Ext.refl _ | refine Ext.plus ?_ _ | refine Ext.alloc ?_ _ | refine Ext.drew ?_ | refine Ext.drewN ?_ _))⟩
        · go_wp2
          go_ret
          exact ⟨ret_bool (bandB_yes (by omega) HL.out fun j hj => H.out j (by omega)).symm, (by repeat (first | exact Ext.refl _ | refine Ext.plus ?_ _ | refine Ext.alloc ?_ _ | refine Ext.drew ?_ | refine Ext.drewN ?_ _))⟩

theorem ext_nth {a b : List Int} (hl : a.length = b.length) (h : ∀ j, j < a.length → nth a j = nth b j) : a = b := by
  apply List.ext_getElem hl
  intro i h1 h2
  have := h i h1
  simpa [nth, h1, h2] using this
theorem ext_row {α : Type} {a b : List (List α)} (hl : a.length = b.length) (h : ∀ j, j < a.length → row a j = row b j) : a = b := by
  apply List.ext_getElem hl
  intro i h1 h2
  have := h i h1
  simpa [row, h1, h2] using this
theorem ne_row {α : Type} {a b : List (List α)} {j : Nat} (h : row a j ≠ row b j) : a ≠ b := fun e => h (by rw [e])

set_option maxHeartbeats 1600000 in
theorem sameBand_c (A A' : Option Addr) (c c' : Nat) (a b : List (List Int)) (w : World) (h : Arr w w.heap.size A c a) (h' : Arr w w.heap.size A' c' b) :
    Calls Try.prog 21 #[.slice A a.length c, .slice A' b.length c'] w fun e w' => e = .returned (.bool (decide (a = b))) ∧ Ext w w' := by
  have hle := h.le
  have hle' := h'.le
  by_cases hl : a.length = b.length
  · have HL : Hid _ := hl
    have hne : ((a.length : Int) != (b.length : Int)) = false := by rw [bne_eq_false_iff_eq]; omega
    clear hl
    go_enter Try.func21, Try.ntmps21
    go_wp2
    clear hne
    go_loopw [5] (fun t wr => ∃ i : Nat, i ≤ a.length ∧ t = .int .i64 i ∧ Ext w wr ∧ Hid (∀ j, j < i → row a j = row b j)) (fun t _ => a.length - (intOf t).toNat)
    case atStart => exact ⟨0, by omega, rfl, (by repeat (first | exact Ext.refl _ | refine Ext.plus ?_ _ | refine Ext.alloc ?_ _ | refine Ext.drew ?_ | refine Ext.drewN ?_ _)), fun j hj => by omega⟩
    case round =>
      obtain ⟨i, hi, rfl, ⟨g, rfl⟩, H⟩ := hrel
      by_cases hlt : i < a.length
      · have hlt' : i < b.length := by rw [← HL.out]; exact hlt
        obtain ⟨b1, off1, rfl, hb1, hc1⟩ := h'.rows (by omega)
        obtain ⟨b0, off0, rfl, hb0, hc0⟩ := h.rows (by omega)
        obtain ⟨Ai, ci, hck, hrow⟩ := hc0 i hlt
        obtain ⟨Aj, cj, hcj, hrowj⟩ := hc1 i hlt'
        have hli := hrow.le
        have hlj := hrowj.le
        clear hc0 hc1
        go_wp2
        by_cases hr : (row a i).length = (row b i).length
        · have HR : Hid _ := hr
          have hne : (((row a i).length : Int) != ((row b i).length : Int)) = false := by rw [bne_eq_false_iff_eq]; omega
          clear hr
          (refine region_more (by kernel_rfl) (by kernel_rfl) ?_; (repeat (first | go_big_quiet_skip | (go_big_quiet_want; go_big_quiet_op; first | go_big_quiet_on | (apply Exists.intro; refine ⟨fun _ => ?_, ?_⟩; (focus ((fail); done)); go_big_quiet_on)))); refine wpQuiet_nil ?_; rintro _ ⟨gq, rfl⟩)
          go_wp2
          clear hne
          go_loopw [6] (fun t wr => ∃ k : Nat, k ≤ (row a i).length ∧ t = .int .i64 k ∧ Ext w wr ∧ Hid (∀ j, j < k → nth (row a i) j = nth (row b i) j)) (fun t _ => (row a i).length - (intOf t).toNat)
          case atStart => exact ⟨0, by omega, rfl, (by repeat (first | exact Ext.refl _ | refine Ext.plus ?_ _ | refine Ext.alloc ?_ _ | refine Ext.drew ?_ | refine Ext.drewN ?_ _)), fun j hj => by omega⟩
          case round =>
            obtain ⟨k, hk, rfl, ⟨g', rfl⟩, HK⟩ := hrel
            by_cases hlk : k < (row a i).length
            · have hlk' : k < (row b i).length := by rw [← HR.out]; exact hlk
              obtain ⟨b3, off3, rfl, hb3, hc3⟩ := hrowj.int (by omega)
              obtain ⟨b2, off2, rfl, hb2, hc2⟩ := hrow.int (by omega)
              have e2 := hc2 k hlk
              have e3 := hc3 k hlk'
              clear hc2 hc3
              by_cases he : nth (row a i) k = nth (row b i) k
              · have HE : Hid _ := he
                have hne : (nth (row a i) k != nth (row b i) k) = false := by rw [bne_eq_false_iff_eq]; exact he
                clear he
                go_wp2
                (refine region_more (by kernel_rfl) (by kernel_rfl) ?_; (repeat (first | go_big_quiet_skip | (go_big_quiet_want; go_big_quiet_op; first | go_big_quiet_on | (apply Exists.intro; refine ⟨fun _ => ?_, ?_⟩; (focus ((fail); done)); go_big_quiet_on)))); refine wpQuiet_nil ?_; rintro _ ⟨gq, rfl⟩)
                go_wp2
                go_roundw
                case rel => exact ⟨k + 1, by omega, by go_num, (by repeat (first | exact Ext.refl _ | refine Ext.plus ?_ _ | refine Ext.alloc ?_ _ | refine Ext.drew ?_ | refine Ext.drewN ?_ _)), all_step HK.out HE.out⟩
                case measure => simp [intOf]; omega
              · have HE : Hid _ := he
                have hne : (nth (row a i) k != nth (row b i) k) = true := by rw [bne_iff_ne]; exact he
                clear he
                go_wp2
                (refine region_more (by kernel_rfl) (by kernel_rfl) ?_; (repeat (first | go_big_quiet_skip | (go_big_quiet_want; go_big_quiet_op; first | go_big_quiet_on | (apply Exists.intro; refine ⟨fun _ => ?_, ?_⟩; (focus ((fail); done)); go_big_quiet_on)))); refine wpQuiet_nil ?_; rintro _ ⟨gq, rfl⟩)
                go_wp2
                go_ret
                exact ⟨ret_bool (decide_eq_false (ne_row fun e => HE.out (by rw [e]))).symm, (by repeat (first | exact Ext.refl _ | refine Ext.plus ?_ _ | refine Ext.alloc ?_ _ | refine Ext.drew ?_ | refine Ext.drewN ?_ _))⟩
            · go_wp2
              go_roundw
              case rel => exact ⟨i + 1, by omega, by go_num, (by repeat (first | exact Ext.refl _ | refine Ext.plus ?_ _ | refine Ext.alloc ?_ _ | refine Ext.drew ?_ | refine Ext.drewN ?_ _)), all_step H.out (ext_nth HR.out fun j hj => HK.out j (by omega))⟩
              case measure => simp [intOf]; omega
        · have HR : Hid _ := hr
          have hne : (((row a i).length : Int) != ((row b i).length : Int)) = true := by rw [bne_iff_ne]; omega
          clear hr
          (refine region_more (by kernel_rfl) (by kernel_rfl) ?_; (repeat (first | go_big_quiet_skip | (go_big_quiet_want; go_big_quiet_op; first | go_big_quiet_on | (apply Exists.intro; refine ⟨fun _ => ?_, ?_⟩; (focus ((fail); done)); go_big_quiet_on)))); refine wpQuiet_nil ?_; rintro _ ⟨gq, rfl⟩)
          go_wp2
          go_ret
          exact ⟨ret_bool (decide_eq_false (ne_row fun e => HR.out (by rw [e]))).symm, (by repeat (first | exact Ext.refl _ | refine Ext.plus ?_ _ | refine Ext.alloc ?_ _ | refine Ext.drew ?_ | refine Ext.drewN ?_ _))⟩
      · obtain rfl : i = a.length := by omega
        go_wp2
        go_ret
        exact ⟨ret_bool (decide_eq_true (ext_row HL.out H.out)).symm, (by repeat (first | exact Ext.refl _ | refine Ext.plus ?_ _ | refine Ext.alloc ?_ _ | refine Ext.drew ?_ | refine Ext.drewN ?_ _))⟩
  · have hne : ((a.length : Int) != (b.length : Int)) = true := by rw [bne_iff_ne]; omega
    go_enter Try.func21, Try.ntmps21
    go_wp2
    go_ret
    exact ⟨ret_bool (decide_eq_false fun e => hl (by rw [e])).symm, (by repeat (first | exact Ext.refl _ | refine Ext.plus ?_ _ | refine Ext.alloc ?_ _ | refine Ext.drew ?_ | refine Ext.drewN ?_ _))⟩
end Go.Proofs.Ytccidiflnmchiaa
