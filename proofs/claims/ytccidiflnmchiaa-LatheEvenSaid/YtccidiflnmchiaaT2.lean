import Derived.Test.YtccidiflnmchiaaT1
namespace Go.Proofs.Ytccidiflnmchiaa
open Go.RowKit

def lineAt (s : Sheet) (l : List Int) (k : Nat) : Bool := withinB (nth l k) 0 (s.rows - s.weight) && (k == 0 || withinB (nth l k - nth l (k - 1)) (-s.lean) s.lean)
def isLineB (s : Sheet) (l : List Int) : Bool := (List.range l.length).all (lineAt s l) && decide ((l.length : Int) = s.cols)

theorem isLine_step {s : Sheet} {l : List Int} {k : Nat} (h : ∀ j, j < k → lineAt s l j = true) (hk : lineAt s l k = true) : ∀ j, j < k + 1 → lineAt s l j = true := by
  intro j hj
  by_cases e : j = k
  · rw [e]; exact hk
  · exact h j (by omega)
theorem isLine_no {s : Sheet} {l : List Int} {k : Nat} (hlt : k < l.length) (hk : lineAt s l k = false) : isLineB s l = false := by
  unfold isLineB
  rw [Bool.and_eq_false_iff]
  left
  rw [List.all_eq_false]
  exact ⟨k, by simpa using hlt, by simp [hk]⟩
theorem isLine_yes {s : Sheet} {l : List Int} (h : ∀ j, j < l.length → lineAt s l j = true) : isLineB s l = decide ((l.length : Int) = s.cols) := by
  unfold isLineB
  rw [List.all_eq_true.2 (by simpa using h), Bool.true_and]

set_option maxHeartbeats 400000 in
theorem isLine_c (s : Sheet) (hs : s.ok = true) (A : Option Addr) (c : Nat) (l : List Int) (w : World) (h : Arr w w.heap.size A c l) :
    Calls Try.prog 89 #[.agg #[.int .i64 s.cols, .int .i64 s.rows, .int .i64 s.weight, .int .i64 s.clear, .int .i64 s.lean], .slice A l.length c] w fun e w' => e = .returned (.bool (isLineB s l)) ∧ Ext w w' := by
  have hle := h.le
  simp only [Sheet.ok, withinB, Bool.and_eq_true, decide_eq_true_eq] at hs
  obtain ⟨⟨⟨⟨⟨_, _⟩, _, _⟩, _, _⟩, _, _⟩, _, _⟩ := hs
  go_enter Try.func89, Try.ntmps89
  go_wp2
  go_loopw [9] (fun i wr => ∃ k : Nat, k ≤ l.length ∧ i = .int .i64 k ∧ Ext (w.alloc (.cells #[.int .i64 s.cols, .int .i64 s.rows, .int .i64 s.weight, .int .i64 s.clear, .int .i64 s.lean] 23)) wr ∧ Hid (∀ j, j < k → lineAt s l j = true)) (fun i _ => l.length - (intOf i).toNat)
  case atStart => exact ⟨0, by omega, rfl, Ext.refl _, fun j hj => by omega⟩
  case round =>
    obtain ⟨k, hk, rfl, ⟨g, rfl⟩, H⟩ := hrel
    by_cases hlt : k < l.length
    · obtain ⟨b, off, rfl, hb, hc⟩ := h.int (by omega)
      have hck := hc k hlt
      have hck1 := hc (k - 1) (by omega)
      clear hc
      go_wp2
      by_cases h1 : withinB (nth l k) 0 (s.rows - s.weight) = true
      · have h1' := h1
        simp only [withinB, Bool.and_eq_true, decide_eq_true_eq] at h1'
        obtain ⟨_, _⟩ := h1'
        by_cases h2 : 0 < k
        · have hp := H.out (k - 1) (by omega)
          simp only [lineAt, withinB, Bool.and_eq_true, decide_eq_true_eq] at hp
          obtain ⟨⟨_, _⟩, _⟩ := hp
          by_cases h3 : withinB (nth l k - nth l (k - 1)) (-s.lean) s.lean = true
          · (refine region_more (by kernel_rfl) (by kernel_rfl) ?_; (repeat (first | go_big_quiet_skip | (go_big_quiet_want; go_big_quiet_op; first | go_big_quiet_on | (apply Exists.intro; refine ⟨fun _ => ?_, ?_⟩; (focus (((go_at_call 57; first | exact in_more2 (within_x _ _ _ _) | exact in_more (within_x _ _ _ _))); done)); go_big_quiet_on)))); refine wpQuiet_nil ?_; rintro _ ⟨gq, rfl⟩)
            go_wp2
            go_roundw
            case rel => exact ⟨k + 1, by omega, by go_num, (by repeat (first | exact Ext.refl _ | refine Ext.plus ?_ _ | refine Ext.alloc ?_ _ | refine Ext.drew ?_ | refine Ext.drewN ?_ _)), isLine_step H.out (by simp [lineAt, h1, h3])⟩
            case measure => simp [intOf]; omega
          · rw [Bool.not_eq_true] at h3
            have hf : isLineB s l = false := isLine_no hlt (by simp [lineAt, h3]; omega)
            have Hf : Hid _ := hf
            clear hf
            (refine region_more (by kernel_rfl) (by kernel_rfl) ?_; (repeat (first | go_big_quiet_skip | (go_big_quiet_want; go_big_quiet_op; first | go_big_quiet_on | (apply Exists.intro; refine ⟨fun _ => ?_, ?_⟩; (focus (((go_at_call 57; first | exact in_more2 (within_x _ _ _ _) | exact in_more (within_x _ _ _ _))); done)); go_big_quiet_on)))); refine wpQuiet_nil ?_; rintro _ ⟨gq, rfl⟩)
            go_wp2
            go_ret
            exact ⟨ret_bool Hf.out.symm, (by repeat (first | exact Ext.refl _ | refine Ext.plus ?_ _ | refine Ext.alloc ?_ _ | refine Ext.drew ?_ | refine Ext.drewN ?_ _))⟩
        · have h2' : decide ((0 : Int) < (k : Int)) = false := by simp; omega
          (refine region_more (by kernel_rfl) (by kernel_rfl) ?_; (repeat (first | go_big_quiet_skip | (go_big_quiet_want; go_big_quiet_op; first | go_big_quiet_on | (apply Exists.intro; refine ⟨fun _ => ?_, ?_⟩; (focus (((go_at_call 57; first | exact in_more2 (within_x _ _ _ _) | exact in_more (within_x _ _ _ _))); done)); go_big_quiet_on)))); refine wpQuiet_nil ?_; rintro _ ⟨gq, rfl⟩)
          go_wp2
          go_roundw
          case rel => exact ⟨k + 1, by omega, by go_num, (by repeat (first | exact Ext.refl _ | refine Ext.plus ?_ _ | refine Ext.alloc ?_ _ | refine Ext.drew ?_ | refine Ext.drewN ?_ _)), isLine_step H.out (by simp [lineAt, h1]; omega)⟩
          case measure => simp [intOf]; omega
      · rw [Bool.not_eq_true] at h1
        have hf : isLineB s l = false := isLine_no hlt (by simp [lineAt, h1])
        have Hf : Hid _ := hf
        clear hf
        (refine region_more (by kernel_rfl) (by kernel_rfl) ?_; (repeat (first | go_big_quiet_skip | (go_big_quiet_want; go_big_quiet_op; first | go_big_quiet_on | (apply Exists.intro; refine ⟨fun _ => ?_, ?_⟩; (focus (((go_at_call 57; first | exact in_more2 (within_x _ _ _ _) | exact in_more (within_x _ _ _ _))); done)); go_big_quiet_on)))); refine wpQuiet_nil ?_; rintro _ ⟨gq, rfl⟩)
        go_wp2
        go_ret
        exact ⟨ret_bool Hf.out.symm, (by repeat (first | exact Ext.refl _ | refine Ext.plus ?_ _ | refine Ext.alloc ?_ _ | refine Ext.drew ?_ | refine Ext.drewN ?_ _))⟩
    · obtain rfl : k = l.length := by omega
      go_wp2
      go_ret
      exact ⟨ret_bool (isLine_yes H.out).symm, (by repeat (first | exact Ext.refl _ | refine Ext.plus ?_ _ | refine Ext.alloc ?_ _ | refine Ext.drew ?_ | refine Ext.drewN ?_ _))⟩
end Go.Proofs.Ytccidiflnmchiaa
