import Derived.Test.YtccidiflnmchiaaT9
namespace Go.Proofs.Ytccidiflnmchiaa
open Go.RowKit

theorem between_1 {s : Sheet} {top bottom : List Int} {n : Int} (h : curvesErr s top bottom ≠ 0) : betweenErr s top bottom n = curvesErr s top bottom ∧ betweenF s top bottom n = [] := by
  have e : betweenErr s top bottom n = curvesErr s top bottom := by unfold betweenErr; rw [if_neg h]
  exact ⟨e, by unfold betweenF; rw [e, if_neg h]⟩
theorem between_2 {s : Sheet} {top bottom : List Int} {n : Int} (h : curvesErr s top bottom = 0) (hw : withinB n 2 12 = false) : betweenErr s top bottom n = 2 ∧ betweenF s top bottom n = [] := by
  have e : betweenErr s top bottom n = 2 := by unfold betweenErr; rw [if_pos h, if_neg (by rw [hw]; decide)]
  exact ⟨e, by unfold betweenF; rw [e, if_neg (by decide)]⟩
theorem between_3 {s : Sheet} {top bottom : List Int} {n : Int} (h : curvesErr s top bottom = 0) (hw : withinB n 2 12 = true) (hf : fitTo s top bottom bottom.length < n) : betweenErr s top bottom n = 71 ∧ betweenF s top bottom n = [] := by
  have e : betweenErr s top bottom n = 71 := by unfold betweenErr; rw [if_pos h, if_pos hw, if_pos hf]
  exact ⟨e, by unfold betweenF; rw [e, if_neg (by decide)]⟩
theorem between_4 {s : Sheet} {top bottom : List Int} {n : Int} (h : curvesErr s top bottom = 0) (hw : withinB n 2 12 = true) (hf : ¬ fitTo s top bottom bottom.length < n) : betweenErr s top bottom n = 0 ∧ betweenF s top bottom n = evenRows top bottom n n.toNat := by
  have e : betweenErr s top bottom n = 0 := by unfold betweenErr; rw [if_pos h, if_pos hw, if_neg hf]
  exact ⟨e, by unfold betweenF; rw [e, if_pos rfl]⟩
theorem curvesErr_sheet {s : Sheet} {top bottom : List Int} (h : s.ok = false) : curvesErr s top bottom = 70 := by unfold curvesErr; rw [h]; rfl
theorem curvesErr_no {s : Sheet} {top bottom : List Int} (h : s.ok = true) (h2 : (isLineB s top && isLineB s bottom && geB top bottom) = false) : curvesErr s top bottom = 2 := by unfold curvesErr; rw [h, h2]; rfl
theorem curvesErr_yes {s : Sheet} {top bottom : List Int} (h : s.ok = true) (h2 : (isLineB s top && isLineB s bottom && geB top bottom) = true) : curvesErr s top bottom = 0 := by unfold curvesErr; rw [h, h2]; rfl

set_option maxHeartbeats 1600000 in
theorem rbetween_c (s : Sheet) (A A' : Option Addr) (c c' : Nat) (top bottom : List Int) (n : Int) (w : World) (h : Arr w w.heap.size A c top) (h' : Arr w w.heap.size A' c' bottom) :
    Calls Try.prog 18 #[.agg #[.int .i64 s.cols, .int .i64 s.rows, .int .i64 s.weight, .int .i64 s.clear, .int .i64 s.lean], .slice A top.length c, .slice A' bottom.length c', .int .i64 n] w fun e w' => Ext w w' ∧ ∃ B d, e = .returned (.tuple #[.slice B (betweenF s top bottom n).length d, .int .i64 (betweenErr s top bottom n)]) ∧ Arr w' w'.heap.size B d (betweenF s top bottom n) := by
  cases hs : s.ok
  · have he := curvesErr_sheet (top := top) (bottom := bottom) hs
    obtain ⟨e1, e2⟩ := between_1 (n := n) (show curvesErr s top bottom ≠ 0 by rw [he]; decide)
    rw [e1, e2, he]
    clear e1 e2 he
    go_enter Try.func18, Try.ntmps18
    go_wp2_with ((go_at_call 59; refine (rsheet_c _ _).mono ?_; rintro e w' ⟨rfl, g1, rfl⟩))
    go_ret2
    exact ⟨(by repeat (first | exact Ext.refl _ | refine Ext.plus ?_ _ | refine Ext.alloc ?_ _ | refine Ext.drew ?_ | refine Ext.drewN ?_ _)), none, 0, rfl, Arr.nil _ _⟩
  · have HS : Hid _ := hs
    clear hs
    cases hc : isLineB s top && isLineB s bottom && geB top bottom
    · have he := curvesErr_no HS.out hc
      obtain ⟨e1, e2⟩ := between_1 (n := n) (show curvesErr s top bottom ≠ 0 by rw [he]; decide)
      rw [e1, e2, he]
      have HC : Hid _ := hc
      clear e1 e2 he hc
      go_enter Try.func18, Try.ntmps18
      go_wp2_with fail
      refine (rsheet_c _ _).mono ?_
      rintro e w1 ⟨rfl, g1, rfl⟩
      rw [HS.out]
      go_wp2_with fail
      refine (rcurves_c s HS.out A A' c c' top bottom _ (h.up (by repeat (first | exact Ext.refl _ | refine Ext.plus ?_ _ | refine Ext.alloc ?_ _ | refine Ext.drew ?_ | refine Ext.drewN ?_ _))) (h'.up (by repeat (first | exact Ext.refl _ | refine Ext.plus ?_ _ | refine Ext.alloc ?_ _ | refine Ext.drew ?_ | refine Ext.drewN ?_ _)))).mono ?_
      rintro e w1 ⟨rfl, g2, rfl⟩
      rw [HC.out]
      go_wp2
      go_ret2
      exact ⟨(by repeat (first | exact Ext.refl _ | refine Ext.plus ?_ _ | refine Ext.alloc ?_ _ | refine Ext.drew ?_ | refine Ext.drewN ?_ _)), none, 0, rfl, Arr.nil _ _⟩
    · have he := curvesErr_yes HS.out hc
      have HC : Hid _ := hc
      clear hc
      have HE : Hid _ := he
      clear he
      cases hw : withinB n 2 12
      · obtain ⟨e1, e2⟩ := between_2 HE.out hw
        rw [e1, e2]
        have HW : Hid _ := hw
        clear e1 e2 hw
        go_enter Try.func18, Try.ntmps18
        go_wp2_with fail
        refine (rsheet_c _ _).mono ?_
        rintro e w1 ⟨rfl, g1, rfl⟩
        rw [HS.out]
        go_wp2_with fail
        refine (rcurves_c s HS.out A A' c c' top bottom _ (h.up (by repeat (first | exact Ext.refl _ | refine Ext.plus ?_ _ | refine Ext.alloc ?_ _ | refine Ext.drew ?_ | refine Ext.drewN ?_ _))) (h'.up (by repeat (first | exact Ext.refl _ | refine Ext.plus ?_ _ | refine Ext.alloc ?_ _ | refine Ext.drew ?_ | refine Ext.drewN ?_ _)))).mono ?_
        rintro e w1 ⟨rfl, g2, rfl⟩
        rw [HC.out]
        go_wp2_with fail
        refine (rwithin_c _ _ _ _).mono ?_
        rintro e w1 ⟨rfl, rfl⟩
        rw [HW.out]
        go_wp2
        go_ret2
        exact ⟨(by repeat (first | exact Ext.refl _ | refine Ext.plus ?_ _ | refine Ext.alloc ?_ _ | refine Ext.drew ?_ | refine Ext.drewN ?_ _)), none, 0, rfl, Arr.nil _ _⟩
      · have hn := hw
        simp only [withinB, Bool.and_eq_true, decide_eq_true_eq] at hn
        obtain ⟨hn1, hn2⟩ := hn
        obtain ⟨m, rfl⟩ := Int.eq_ofNat_of_zero_le (show 0 ≤ n by omega)
        obtain ⟨k1, k2, k3, k4⟩ := curves_ok HE.out
        have hb := band_even k1 k2 k3 k4 (show 2 ≤ m by omega) (show m ≤ 12 by omega)
        have HR1 : Hid _ := isLine_range k1 k2
        have HR2 : Hid _ := isLine_range k1 k3
        have HG : Hid _ := geB_at k4
        have HL : Hid (top.length = bottom.length) := by show _ = _; have := isLine_len k2; have := isLine_len k3; omega
        have HL4 : Hid (top.length ≤ 40) := by show _ ≤ _; have := isLine_len k2; have := Sheet.bounds k1; omega
        have HW : Hid _ := hw
        clear hw k1 k2 k3 k4
        by_cases hf : fitTo s top bottom bottom.length < (m : Int)
        · obtain ⟨e1, e2⟩ := between_3 HE.out HW.out hf
          rw [e1, e2]
          rw [decide_eq_false (by omega)] at hb
          have HB : Hid _ := hb
          clear e1 e2 hb hf
          go_enter Try.func18, Try.ntmps18
          go_wp2_with fail
          refine (rsheet_c _ _).mono ?_
          rintro e w1 ⟨rfl, g1, rfl⟩
          rw [HS.out]
          go_wp2_with fail
          refine (rcurves_c s HS.out A A' c c' top bottom _ (h.up (by repeat (first | exact Ext.refl _ | refine Ext.plus ?_ _ | refine Ext.alloc ?_ _ | refine Ext.drew ?_ | refine Ext.drewN ?_ _))) (h'.up (by repeat (first | exact Ext.refl _ | refine Ext.plus ?_ _ | refine Ext.alloc ?_ _ | refine Ext.drew ?_ | refine Ext.drewN ?_ _)))).mono ?_
          rintro e w1 ⟨rfl, g2, rfl⟩
          rw [HC.out]
          go_wp2_with fail
          refine (rwithin_c _ _ _ _).mono ?_
          rintro e w1 ⟨rfl, rfl⟩
          rw [HW.out]
          go_wp2_with fail
          refine (reven_c A A' c c' top bottom m _ (h.up (by repeat (first | exact Ext.refl _ | refine Ext.plus ?_ _ | refine Ext.alloc ?_ _ | refine Ext.drew ?_ | refine Ext.drewN ?_ _))) (h'.up (by repeat (first | exact Ext.refl _ | refine Ext.plus ?_ _ | refine Ext.alloc ?_ _ | refine Ext.drew ?_ | refine Ext.drewN ?_ _))) (by omega) (by omega) HL HL4 HR1 HR2 HG).mono ?_
          rintro e w1 ⟨⟨g3, rfl⟩, B, d, rfl, hB⟩
          go_wp2_with fail
          refine (rband_c s HS.out B d (evenRows top bottom m m) _ (hB.up (by repeat (first | exact Ext.refl _ | refine Ext.plus ?_ _ | refine Ext.alloc ?_ _ | refine Ext.drew ?_ | refine Ext.drewN ?_ _)))).mono ?_
          rintro e w1 ⟨rfl, g4, rfl⟩
          rw [HB.out]
          go_wp2
          go_ret2
          exact ⟨(by repeat (first | exact Ext.refl _ | refine Ext.plus ?_ _ | refine Ext.alloc ?_ _ | refine Ext.drew ?_ | refine Ext.drewN ?_ _)), none, 0, rfl, Arr.nil _ _⟩
        · obtain ⟨e1, e2⟩ := between_4 HE.out HW.out hf
          rw [e1, e2, Int.toNat_natCast]
          rw [decide_eq_true (by omega)] at hb
          have HB : Hid _ := hb
          clear e1 e2 hb hf
          go_enter Try.func18, Try.ntmps18
          go_wp2_with fail
          refine (rsheet_c _ _).mono ?_
          rintro e w1 ⟨rfl, g1, rfl⟩
          rw [HS.out]
          go_wp2_with fail
          refine (rcurves_c s HS.out A A' c c' top bottom _ (h.up (by repeat (first | exact Ext.refl _ | refine Ext.plus ?_ _ | refine Ext.alloc ?_ _ | refine Ext.drew ?_ | refine Ext.drewN ?_ _))) (h'.up (by repeat (first | exact Ext.refl _ | refine Ext.plus ?_ _ | refine Ext.alloc ?_ _ | refine Ext.drew ?_ | refine Ext.drewN ?_ _)))).mono ?_
          rintro e w1 ⟨rfl, g2, rfl⟩
          rw [HC.out]
          go_wp2_with fail
          refine (rwithin_c _ _ _ _).mono ?_
          rintro e w1 ⟨rfl, rfl⟩
          rw [HW.out]
          go_wp2_with fail
          refine (reven_c A A' c c' top bottom m _ (h.up (by repeat (first | exact Ext.refl _ | refine Ext.plus ?_ _ | refine Ext.alloc ?_ _ | refine Ext.drew ?_ | refine Ext.drewN ?_ _))) (h'.up (by repeat (first | exact Ext.refl _ | refine Ext.plus ?_ _ | refine Ext.alloc ?_ _ | refine Ext.drew ?_ | refine Ext.drewN ?_ _))) (by omega) (by omega) HL HL4 HR1 HR2 HG).mono ?_
          rintro e w1 ⟨⟨g3, rfl⟩, B, d, rfl, hB⟩
          go_wp2_with fail
          refine (rband_c s HS.out B d (evenRows top bottom m m) _ (hB.up (by repeat (first | exact Ext.refl _ | refine Ext.plus ?_ _ | refine Ext.alloc ?_ _ | refine Ext.drew ?_ | refine Ext.drewN ?_ _)))).mono ?_
          rintro e w1 ⟨rfl, g4, rfl⟩
          rw [HB.out]
          go_wp2
          go_ret2
          exact ⟨(by repeat (first | exact Ext.refl _ | refine Ext.plus ?_ _ | refine Ext.alloc ?_ _ | refine Ext.drew ?_ | refine Ext.drewN ?_ _)), B, d, rfl, hB.up (by repeat (first | exact Ext.refl _ | refine Ext.plus ?_ _ | refine Ext.alloc ?_ _ | refine Ext.drew ?_ | refine Ext.drewN ?_ _))⟩

theorem most_1 {s : Sheet} {top bottom : List Int} (h : curvesErr s top bottom ≠ 0) : mostErr s top bottom = curvesErr s top bottom ∧ mostVal s top bottom = 0 := by
  have e : mostErr s top bottom = curvesErr s top bottom := by unfold mostErr; rw [if_neg h]
  exact ⟨e, by unfold mostVal; rw [e, if_neg h]⟩
theorem most_2 {s : Sheet} {top bottom : List Int} (h : curvesErr s top bottom = 0) (hf : fitTo s top bottom bottom.length < 2) : mostErr s top bottom = 71 ∧ mostVal s top bottom = 0 := by
  have e : mostErr s top bottom = 71 := by unfold mostErr; rw [if_pos h, if_pos hf]
  exact ⟨e, by unfold mostVal; rw [e, if_neg (by decide)]⟩
theorem most_3 {s : Sheet} {top bottom : List Int} (h : curvesErr s top bottom = 0) (hf : ¬ fitTo s top bottom bottom.length < 2) : mostErr s top bottom = 0 ∧ mostVal s top bottom = fitTo s top bottom bottom.length := by
  have e : mostErr s top bottom = 0 := by unfold mostErr; rw [if_pos h, if_neg hf]
  exact ⟨e, by unfold mostVal; rw [e, if_pos rfl]⟩

set_option maxHeartbeats 1600000 in
theorem rmost_c (s : Sheet) (A A' : Option Addr) (c c' : Nat) (top bottom : List Int) (w : World) (h : Arr w w.heap.size A c top) (h' : Arr w w.heap.size A' c' bottom) :
    Calls Try.prog 20 #[.agg #[.int .i64 s.cols, .int .i64 s.rows, .int .i64 s.weight, .int .i64 s.clear, .int .i64 s.lean], .slice A top.length c, .slice A' bottom.length c'] w fun e w' => e = .returned (.tuple #[.int .i64 (mostVal s top bottom), .int .i64 (mostErr s top bottom)]) ∧ Ext w w' := by
  cases hs : s.ok
  · have he := curvesErr_sheet (top := top) (bottom := bottom) hs
    obtain ⟨e1, e2⟩ := most_1 (show curvesErr s top bottom ≠ 0 by rw [he]; decide)
    rw [e1, e2, he]
    clear e1 e2 he
    go_enter Try.func20, Try.ntmps20
    go_wp2_with ((go_at_call 59; refine (rsheet_c _ _).mono ?_; rintro e w' ⟨rfl, g1, rfl⟩))
    go_ret2
    exact ⟨rfl, (by repeat (first | exact Ext.refl _ | refine Ext.plus ?_ _ | refine Ext.alloc ?_ _ | refine Ext.drew ?_ | refine Ext.drewN ?_ _))⟩
  · have HS : Hid _ := hs
    clear hs
    cases hc : isLineB s top && isLineB s bottom && geB top bottom
    · have he := curvesErr_no HS.out hc
      obtain ⟨e1, e2⟩ := most_1 (show curvesErr s top bottom ≠ 0 by rw [he]; decide)
      rw [e1, e2, he]
      have HC : Hid _ := hc
      clear e1 e2 he hc
      go_enter Try.func20, Try.ntmps20
      go_wp2_with fail
      refine (rsheet_c _ _).mono ?_
      rintro e w1 ⟨rfl, g1, rfl⟩
      rw [HS.out]
      go_wp2_with fail
      refine (rcurves_c s HS.out A A' c c' top bottom _ (h.up (by repeat (first | exact Ext.refl _ | refine Ext.plus ?_ _ | refine Ext.alloc ?_ _ | refine Ext.drew ?_ | refine Ext.drewN ?_ _))) (h'.up (by repeat (first | exact Ext.refl _ | refine Ext.plus ?_ _ | refine Ext.alloc ?_ _ | refine Ext.drew ?_ | refine Ext.drewN ?_ _)))).mono ?_
      rintro e w1 ⟨rfl, g2, rfl⟩
      rw [HC.out]
      go_wp2
      go_ret2
      exact ⟨rfl, (by repeat (first | exact Ext.refl _ | refine Ext.plus ?_ _ | refine Ext.alloc ?_ _ | refine Ext.drew ?_ | refine Ext.drewN ?_ _))⟩
    · have he := curvesErr_yes HS.out hc
      have HC : Hid _ := hc
      clear hc
      obtain ⟨k1, k2, k3, k4⟩ := curves_ok he
      have HB : Hid (∀ m, 2 ≤ m → m ≤ 12 → bandB s (evenRows top bottom (m : Nat) m) = decide ((m : Int) ≤ fitTo s top bottom bottom.length)) := fun m h1 h2 => band_even k1 k2 k3 k4 h1 h2
      have HR1 : Hid _ := isLine_range k1 k2
      have HR2 : Hid _ := isLine_range k1 k3
      have HG : Hid _ := geB_at k4
      have HL : Hid (top.length = bottom.length) := by show _ = _; have := isLine_len k2; have := isLine_len k3; omega
      have HL4 : Hid (top.length ≤ 40) := by show _ ≤ _; have := isLine_len k2; have := Sheet.bounds k1; omega
      have HE : Hid _ := he
      have hf12 := fitTo_le s top bottom bottom.length
      clear he k1 k2 k3 k4
      go_enter Try.func20, Try.ntmps20
      go_wp2_with fail
      refine (rsheet_c _ _).mono ?_
      rintro e w1 ⟨rfl, g1, rfl⟩
      rw [HS.out]
      go_wp2_with fail
      refine (rcurves_c s HS.out A A' c c' top bottom _ (h.up (by repeat (first | exact Ext.refl _ | refine Ext.plus ?_ _ | refine Ext.alloc ?_ _ | refine Ext.drew ?_ | refine Ext.drewN ?_ _))) (h'.up (by repeat (first | exact Ext.refl _ | refine Ext.plus ?_ _ | refine Ext.alloc ?_ _ | refine Ext.drew ?_ | refine Ext.drewN ?_ _)))).mono ?_
      rintro e w1 ⟨rfl, g2, rfl⟩
      rw [HC.out]
      go_wp2
      go_loopw [8] (fun t wr => ∃ m : Nat, 1 ≤ m ∧ m ≤ 12 ∧ t = .int .i64 m ∧ fitTo s top bottom bottom.length ≤ m ∧ Ext (w.alloc (.cells #[.int .i64 s.cols, .int .i64 s.rows, .int .i64 s.weight, .int .i64 s.clear, .int .i64 s.lean] 23)) wr) (fun t _ => (intOf t).toNat)
      case atStart => exact ⟨12, by omega, by omega, rfl, hf12, (by repeat (first | exact Ext.refl _ | refine Ext.plus ?_ _ | refine Ext.alloc ?_ _ | refine Ext.drew ?_ | refine Ext.drewN ?_ _))⟩
      case round =>
        obtain ⟨m, hm1, hm2, rfl, hf, ⟨g, rfl⟩⟩ := hrel
        by_cases hlt : 2 ≤ m
        · have hlt' : (2 : Int) ≤ (m : Int) := by omega
          have hb := HB.out m hlt hm2
          by_cases hfm : (m : Int) ≤ fitTo s top bottom bottom.length
          · rw [decide_eq_true hfm] at hb
            have HBm : Hid _ := hb
            clear hb
            go_wp2
            (refine region_mix1 true [([0, 1, 2, 3], 4), ([], 5)] (by kernel_rfl) (by kernel_rfl) ?_; simp only [segs, opAt, List.map_cons, List.map_nil, wpMix]; (repeat (first | go_big_quiet_skip | (go_big_quiet_want; go_big_quiet_op; go_big_quiet_on))); refine wpQuiet_nil ?_)
            go_wp2_with fail
            refine (reven_c A A' c c' top bottom m _ (h.up (by repeat (first | exact Ext.refl _ | refine Ext.plus ?_ _ | refine Ext.alloc ?_ _ | refine Ext.drew ?_ | refine Ext.drewN ?_ _))) (h'.up (by repeat (first | exact Ext.refl _ | refine Ext.plus ?_ _ | refine Ext.alloc ?_ _ | refine Ext.drew ?_ | refine Ext.drewN ?_ _))) (by omega) (by omega) HL HL4 HR1 HR2 HG).mono ?_
            rintro e w1 ⟨⟨g3, rfl⟩, B, d, rfl, hB⟩
            go_wp2_with fail
            (refine ⟨.inr (show Ext _ _ from (by repeat (first | exact Ext.refl _ | refine Ext.plus ?_ _ | refine Ext.alloc ?_ _ | refine Ext.drew ?_ | refine Ext.drewN ?_ _))), ?_⟩; (repeat (first | go_big_quiet_skip | (go_big_quiet_want; go_big_quiet_op; go_big_quiet_on))); refine wpQuiet_nil ?_)
            go_wp2_with fail
            refine (rband_c s HS.out B d (evenRows top bottom m m) _ (hB.up (by repeat (first | exact Ext.refl _ | refine Ext.plus ?_ _ | refine Ext.alloc ?_ _ | refine Ext.drew ?_ | refine Ext.drewN ?_ _)))).mono ?_
            rintro e w1 ⟨rfl, g4, rfl⟩
            rw [HBm.out]
            go_wp2_with fail
            refine ⟨(by first | exact .inl trivial | exact .inl ⟨rfl, rfl⟩ | exact .inl ⟨trivial, trivial⟩ | exact .inr (show Ext _ _ from (by repeat (first | exact Ext.refl _ | refine Ext.plus ?_ _ | refine Ext.alloc ?_ _ | refine Ext.drew ?_ | refine Ext.drewN ?_ _)))), NoPanic.normal ?_⟩
            go_wp2
            go_ret2
            obtain ⟨e1, e2⟩ := most_3 HE.out (by omega)
            refine ⟨?_, (by repeat (first | exact Ext.refl _ | refine Ext.plus ?_ _ | refine Ext.alloc ?_ _ | refine Ext.drew ?_ | refine Ext.drewN ?_ _))⟩
            rw [e1, e2, show fitTo s top bottom bottom.length = (m : Int) by omega]
            rfl
          · rw [decide_eq_false hfm] at hb
            have HBm : Hid _ := hb
            clear hb
            go_wp2
            (refine region_mix1 true [([0, 1, 2, 3], 4), ([], 5)] (by kernel_rfl) (by kernel_rfl) ?_; simp only [segs, opAt, List.map_cons, List.map_nil, wpMix]; (repeat (first | go_big_quiet_skip | (go_big_quiet_want; go_big_quiet_op; go_big_quiet_on))); refine wpQuiet_nil ?_)
            go_wp2_with fail
            refine (reven_c A A' c c' top bottom m _ (h.up (by repeat (first | exact Ext.refl _ | refine Ext.plus ?_ _ | refine Ext.alloc ?_ _ | refine Ext.drew ?_ | refine Ext.drewN ?_ _))) (h'.up (by repeat (first | exact Ext.refl _ | refine Ext.plus ?_ _ | refine Ext.alloc ?_ _ | refine Ext.drew ?_ | refine Ext.drewN ?_ _))) (by omega) (by omega) HL HL4 HR1 HR2 HG).mono ?_
            rintro e w1 ⟨⟨g3, rfl⟩, B, d, rfl, hB⟩
            go_wp2_with fail
            (refine ⟨.inr (show Ext _ _ from (by repeat (first | exact Ext.refl _ | refine Ext.plus ?_ _ | refine Ext.alloc ?_ _ | refine Ext.drew ?_ | refine Ext.drewN ?_ _))), ?_⟩; (repeat (first | go_big_quiet_skip | (go_big_quiet_want; go_big_quiet_op; go_big_quiet_on))); refine wpQuiet_nil ?_)
            go_wp2_with fail
            refine (rband_c s HS.out B d (evenRows top bottom m m) _ (hB.up (by repeat (first | exact Ext.refl _ | refine Ext.plus ?_ _ | refine Ext.alloc ?_ _ | refine Ext.drew ?_ | refine Ext.drewN ?_ _)))).mono ?_
            rintro e w1 ⟨rfl, g4, rfl⟩
            rw [HBm.out]
            go_wp2_with fail
            refine ⟨(by first | exact .inl trivial | exact .inl ⟨rfl, rfl⟩ | exact .inl ⟨trivial, trivial⟩ | exact .inr (show Ext _ _ from (by repeat (first | exact Ext.refl _ | refine Ext.plus ?_ _ | refine Ext.alloc ?_ _ | refine Ext.drew ?_ | refine Ext.drewN ?_ _)))), NoPanic.normal ?_⟩
            go_wp2
            go_roundw
            case rel => exact ⟨m - 1, by omega, by omega, by congr 1; omega, by omega, (by repeat (first | exact Ext.refl _ | refine Ext.plus ?_ _ | refine Ext.alloc ?_ _ | refine Ext.drew ?_ | refine Ext.drewN ?_ _))⟩
            case measure => simp [intOf]; omega
        · have hlt' : ¬ (2 : Int) ≤ (m : Int) := by omega
          go_wp2
          go_ret2
          obtain ⟨e1, e2⟩ := most_2 HE.out (by omega)
          exact ⟨by rw [e1, e2]; rfl, (by repeat (first | exact Ext.refl _ | refine Ext.plus ?_ _ | refine Ext.alloc ?_ _ | refine Ext.drew ?_ | refine Ext.drewN ?_ _))⟩
end Go.Proofs.Ytccidiflnmchiaa
