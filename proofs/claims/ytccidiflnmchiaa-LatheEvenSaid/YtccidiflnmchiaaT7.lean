import Derived.Test.YtccidiflnmchiaaT6
namespace Go.Proofs.Ytccidiflnmchiaa
open Go.RowKit

theorem info_bools : (Try.prog.info? 45).map (fun i => (i.zero, i.size, i.bytes)) = some (some (.slice none 0 0), 1, 24) := by kernel_rfl

set_option maxHeartbeats 800000 in
theorem rcurves_c (s : Sheet) (hs : s.ok = true) (A A' : Option Addr) (c c' : Nat) (top bottom : List Int) (w : World) (h : Arr w w.heap.size A c top) (h' : Arr w w.heap.size A' c' bottom) :
    Calls Try.prog 60 #[.agg #[.int .i64 s.cols, .int .i64 s.rows, .int .i64 s.weight, .int .i64 s.clear, .int .i64 s.lean], .slice A top.length c, .slice A' bottom.length c'] w fun e w' => e = .returned (.bool (isLineB s top && isLineB s bottom && geB top bottom)) ∧ Ext w w' := by
  have hle := h.le
  have hle' := h'.le
  cases h1 : isLineB s top
  · go_enter Try.func60, Try.ntmps60
    go_wp2_with fail
    refine (rline_c s hs A c top _ (h.up (by repeat (first | exact Ext.refl _ | refine Ext.plus ?_ _ | refine Ext.alloc ?_ _ | refine Ext.drew ?_ | refine Ext.drewN ?_ _)))).mono ?_
    rintro e w1 ⟨rfl, g2, rfl⟩
    go_wp2
    go_ret
    exact ⟨rfl, (by repeat (first | exact Ext.refl _ | refine Ext.plus ?_ _ | refine Ext.alloc ?_ _ | refine Ext.drew ?_ | refine Ext.drewN ?_ _))⟩
  · cases h2 : isLineB s bottom
    · have H1 : Hid _ := h1
      clear h1
      go_enter Try.func60, Try.ntmps60
      go_wp2_with fail
      refine (rline_c s hs A c top _ (h.up (by repeat (first | exact Ext.refl _ | refine Ext.plus ?_ _ | refine Ext.alloc ?_ _ | refine Ext.drew ?_ | refine Ext.drewN ?_ _)))).mono ?_
      rintro e w1 ⟨rfl, g2, rfl⟩
      rw [H1.out]
      go_wp2_with fail
      refine (rline_c s hs A' c' bottom _ (h'.up (by repeat (first | exact Ext.refl _ | refine Ext.plus ?_ _ | refine Ext.alloc ?_ _ | refine Ext.drew ?_ | refine Ext.drewN ?_ _)))).mono ?_
      rintro e w1 ⟨rfl, g3, rfl⟩
      go_wp2
      go_ret
      exact ⟨rfl, (by repeat (first | exact Ext.refl _ | refine Ext.plus ?_ _ | refine Ext.alloc ?_ _ | refine Ext.drew ?_ | refine Ext.drewN ?_ _))⟩
    · have hl1 := isLine_len h1
      have hl2 := isLine_len h2
      have H1 : Hid _ := h1
      have H2 : Hid _ := h2
      have L1 : Hid _ := hl1
      have L2 : Hid _ := hl2
      clear h1 h2 hl1 hl2
      obtain ⟨_, _, _, _, _, _, _, _, _, _⟩ := Sheet.bounds hs
      go_enter Try.func60, Try.ntmps60
      go_wp2_with fail
      refine (rline_c s hs A c top _ (h.up (by repeat (first | exact Ext.refl _ | refine Ext.plus ?_ _ | refine Ext.alloc ?_ _ | refine Ext.drew ?_ | refine Ext.drewN ?_ _)))).mono ?_
      rintro e w1 ⟨rfl, g2, rfl⟩
      rw [H1.out]
      go_wp2_with fail
      refine (rline_c s hs A' c' bottom _ (h'.up (by repeat (first | exact Ext.refl _ | refine Ext.plus ?_ _ | refine Ext.alloc ?_ _ | refine Ext.drew ?_ | refine Ext.drewN ?_ _)))).mono ?_
      rintro e w1 ⟨rfl, g3, rfl⟩
      rw [H2.out]
      go_wp2
      go_loopw [7] (fun i wr => ∃ k : Nat, (k : Int) ≤ s.cols ∧ i = .int .i64 k ∧ Ext (w.alloc (.cells #[.int .i64 s.cols, .int .i64 s.rows, .int .i64 s.weight, .int .i64 s.clear, .int .i64 s.lean] 23)) wr ∧ Hid (∀ j, j < k → nth top j ≤ nth bottom j)) (fun i _ => s.cols.toNat - (intOf i).toNat)
      case atStart => exact ⟨0, by omega, rfl, (by repeat (first | exact Ext.refl _ | refine Ext.plus ?_ _ | refine Ext.alloc ?_ _ | refine Ext.drew ?_ | refine Ext.drewN ?_ _)), fun j hj => by omega⟩
      case round =>
        obtain ⟨k, hk, rfl, ⟨g, rfl⟩, H⟩ := hrel
        by_cases hlt : (k : Int) < s.cols
        · have hla : k < top.length := by have := L1.out; omega
          have hlb : k < bottom.length := by have := L2.out; omega
          obtain ⟨b', off', rfl, hb', hc'⟩ := h'.int (by omega)
          obtain ⟨b0, off, rfl, hb, hc⟩ := h.int (by omega)
          have hck := hc k hla
          have hck' := hc' k hlb
          clear hc hc'
          by_cases h3 : nth bottom k < nth top k
          · go_wp2
            (refine region_more (by kernel_rfl) (by kernel_rfl) ?_; (repeat (first | go_big_quiet_skip | (go_big_quiet_want; go_big_quiet_op; first | go_big_quiet_on | (apply Exists.intro; refine ⟨fun _ => ?_, ?_⟩; (focus ((fail); done)); go_big_quiet_on)))); refine wpQuiet_nil ?_; rintro _ ⟨gq, rfl⟩)
            go_wp2
            go_ret
            exact ⟨ret_bool (by rw [geB_no hlb (by omega)]; rfl), (by repeat (first | exact Ext.refl _ | refine Ext.plus ?_ _ | refine Ext.alloc ?_ _ | refine Ext.drew ?_ | refine Ext.drewN ?_ _))⟩
          · go_wp2
            (refine region_more (by kernel_rfl) (by kernel_rfl) ?_; (repeat (first | go_big_quiet_skip | (go_big_quiet_want; go_big_quiet_op; first | go_big_quiet_on | (apply Exists.intro; refine ⟨fun _ => ?_, ?_⟩; (focus ((fail); done)); go_big_quiet_on)))); refine wpQuiet_nil ?_; rintro _ ⟨gq, rfl⟩)
            go_wp2
            go_roundw
            case rel => exact ⟨k + 1, by omega, by go_num, (by repeat (first | exact Ext.refl _ | refine Ext.plus ?_ _ | refine Ext.alloc ?_ _ | refine Ext.drew ?_ | refine Ext.drewN ?_ _)), all_step H.out (by omega)⟩
            case measure => simp [intOf]; omega
        · go_wp2
          go_ret
          exact ⟨ret_bool (by rw [geB_yes fun j hj => H.out j (by have := L2.out; omega)]), (by repeat (first | exact Ext.refl _ | refine Ext.plus ?_ _ | refine Ext.alloc ?_ _ | refine Ext.drew ?_ | refine Ext.drewN ?_ _))⟩

theorem evenRow_succ (top bottom : List Int) (n : Int) (i k : Nat) : evenRow top bottom n i (k + 1) = evenRow top bottom n i k ++ [evenAt top bottom n i k] := by simp [evenRow, List.range_succ]
theorem evenRow_len (top bottom : List Int) (n : Int) (i k : Nat) : (evenRow top bottom n i k).length = k := by simp [evenRow]
theorem evenRows_succ (top bottom : List Int) (n : Int) (m : Nat) : evenRows top bottom n (m + 1) = evenRows top bottom n m ++ [evenRow top bottom n m top.length] := by simp [evenRows, List.range_succ]
theorem evenRows_len (top bottom : List Int) (n : Int) (m : Nat) : (evenRows top bottom n m).length = m := by simp [evenRows]

/-- The numbers of a line of a valid sheet. -/
def inRange (l : List Int) : Prop := ∀ j, j < l.length → 0 ≤ nth l j ∧ nth l j ≤ 60
theorem isLine_range {s : Sheet} (hs : s.ok = true) {l : List Int} (h : isLineB s l = true) : inRange l := fun j hj => by
  have := isLine_at h j hj
  have := Sheet.bounds hs
  omega

set_option maxHeartbeats 1600000 in
set_option maxRecDepth 100000 in
theorem reven_c (A A' : Option Addr) (c c' : Nat) (top bottom : List Int) (m : Nat) (w : World) (h : Arr w w.heap.size A c top) (h' : Arr w w.heap.size A' c' bottom)
    (hm1 : 2 ≤ m) (hm2 : m ≤ 12) (HL : Hid (top.length = bottom.length)) (HC : Hid (top.length ≤ 40)) (HT : Hid (inRange top)) (HB : Hid (inRange bottom)) (HG : Hid (∀ j, j < bottom.length → nth top j ≤ nth bottom j)) :
    Calls Try.prog 62 #[.slice A top.length c, .slice A' bottom.length c', .int .i64 (m : Int)] w fun e w' => Ext w w' ∧ ∃ B d, e = .returned (.slice B (evenRows top bottom m m).length d) ∧ Arr w' w'.heap.size B d (evenRows top bottom m m) := by
  have hle := h.le
  have hle' := h'.le
  obtain ⟨i0, hi0, hz0, hz1, hz2⟩ := info_parts info_int
  obtain ⟨i1, hi1, hy0, hy1, hy2⟩ := info_parts info_ints
  go_enter Try.func62, Try.ntmps62
  go_wp2
  go_loopw [7, 8] (fun o t wr => ∃ i : Nat, i ≤ m ∧ t = .int .i64 i ∧ Ext w wr ∧ Hid (OwnMat (Value.int .i64) wr w.heap.size 3 24 o (evenRows top bottom m i))) (fun _ t _ => m - (intOf t).toNat)
  case atStart => exact ⟨0, by omega, rfl, (by repeat (first | exact Ext.refl _ | refine Ext.plus ?_ _ | refine Ext.alloc ?_ _ | refine Ext.drew ?_ | refine Ext.drewN ?_ _)), OwnMat.nil _ _ _ _⟩
  case round =>
    obtain ⟨i, hi, rfl, ⟨g, rfl⟩, H⟩ := hrel
    by_cases hlt : i < m
    · go_wp2
      go_loopw [9, 10] (fun l t wr => ∃ k : Nat, k ≤ top.length ∧ t = .int .i64 k ∧ Ext (more w g) wr ∧ Hid (wr.ownsRow (w.heap.size + g.count) 3 1 l k ((evenRow top bottom m i k).map (Value.int .i64)))) (fun _ t _ => top.length - (intOf t).toNat)
      case atStart => exact ⟨0, by omega, rfl, (by repeat (first | exact Ext.refl _ | refine Ext.plus ?_ _ | refine Ext.alloc ?_ _ | refine Ext.drew ?_ | refine Ext.drewN ?_ _)), World.ownsRow_nil _ _ _ _⟩
      case round =>
        obtain ⟨k, hk, rfl, ⟨g1, rfl⟩, HK⟩ := hrel
        by_cases hlk : k < top.length
        · have hlk' : k < bottom.length := by rw [← HL.out]; exact hlk
          obtain ⟨b', off', rfl, hb', hc'⟩ := h'.int (by omega)
          obtain ⟨b, off, rfl, hb, hc⟩ := h.int (by omega)
          have hck := hc k hlk
          have hck' := hc' k hlk'
          clear hc hc'
          have := HT.out k hlk
          have := HB.out k hlk'
          have := HG.out k hlk'
          have hp1 : 0 ≤ (i : Int) * (nth bottom k - nth top k) := Int.mul_nonneg (by omega) (by omega)
          have hp2 : (i : Int) * (nth bottom k - nth top k) ≤ 12 * 60 := Int.mul_le_mul (by omega) (by omega) (by omega) (by omega)
          have hd1 : 0 ≤ (i : Int) * (nth bottom k - nth top k) / ((m : Int) - 1) := Int.ediv_nonneg hp1 (by omega)
          have hd2 : (i : Int) * (nth bottom k - nth top k) / ((m : Int) - 1) ≤ 12 * 60 := Int.le_trans (Int.ediv_le_self _ hp1) hp2
          go_wp2
          (refine region_mix1 false [([0, 1, 2, 3, 4, 5, 6, 7, 8, 9, 10, 11, 12, 13, 14, 15, 16, 17, 18, 19], 20), ([], 21), ([], 22)] (by kernel_rfl) (by kernel_rfl) ?_; simp only [segs, opAt, List.map_cons, List.map_nil, wpMix]; (repeat (first | go_big_quiet_skip | (go_big_quiet_want; go_big_quiet_op; go_big_quiet_on))); refine wpQuiet_nil ?_)
          go_wp2_with fail
          (refine ⟨.inr (show Ext _ _ from (by repeat (first | exact Ext.refl _ | refine Ext.plus ?_ _ | refine Ext.alloc ?_ _ | refine Ext.drew ?_ | refine Ext.drewN ?_ _))), ?_⟩; (repeat (first | go_big_quiet_skip | (go_big_quiet_want; go_big_quiet_op; go_big_quiet_on))); refine wpQuiet_nil ?_)
          (refine app1 rfl (.tmp 22) (.tmp 42) _ rfl 3 i0 _ 8 (by kernel_rfl) hi0 hz0 hz1 hz2 rfl _ _ _ rfl (.int .i64 _) ?_ (w.heap.size + g.count) (HK.out) ?_ ?_ rfl (by unfold maxLen; have := HC.out; omega) (by have := HC.out; omega) ?_; (focus exact congrArg (fun b => Value.slice (some ⟨b, 0, none⟩) 1 1) (by simp [go_sem])); (focus (simp [go_sem]; done)); (focus (simp [go_sem]; done)); intro gb cap' g' hown' hkeep')
          simp only [Act.put, List.setIfInBounds_toArray, List.set_cons_succ, List.set_cons_zero]
          (refine ⟨.inr (show Ext _ _ from (by repeat (first | exact Ext.refl _ | refine Ext.plus ?_ _ | refine Ext.alloc ?_ _ | refine Ext.drew ?_ | refine Ext.drewN ?_ _))), ?_⟩; (repeat (first | go_big_quiet_skip | (go_big_quiet_want; go_big_quiet_op; go_big_quiet_on))); refine wpQuiet_nil ?_)
          go_wp2_with fail
          refine ⟨(by first | exact .inl trivial | exact .inl ⟨rfl, rfl⟩ | exact .inl ⟨trivial, trivial⟩ | exact .inr (show Ext _ _ from (by repeat (first | exact Ext.refl _ | refine Ext.plus ?_ _ | refine Ext.alloc ?_ _ | refine Ext.drew ?_ | refine Ext.drewN ?_ _)))), NoPanic.normal ?_⟩
          go_wp2
          go_roundw
          case rel => exact ⟨k + 1, by omega, by go_num, (by repeat (first | exact Ext.refl _ | refine Ext.plus ?_ _ | refine Ext.alloc ?_ _ | refine Ext.drew ?_ | refine Ext.drewN ?_ _)), by rw [evenRow_succ, List.map_append]; exact hown'⟩
          case measure => simp [intOf]; omega
        · obtain rfl : k = top.length := by omega
          obtain ⟨vs, hv1, hv2⟩ := H.out.ext (Ext.of_more (more w g) g1)
          have hl := HK.out
          obtain ⟨Al, cl, rfl⟩ := own_slice hl
          obtain ⟨G, hG⟩ : ∃ G, more (more w g) g1 = more w G := ⟨_, more_more⟩
          rw [hG] at hv1 hv2 hl ⊢
          have HV : Hid _ := hv1
          have HV2 : Hid _ := hv2
          have HLn : Hid _ := hl
          clear hv1 hv2 hl hG
          go_wp2_with (at_builtin; (refine app1 rfl (.tmp 44) (.tmp 46) _ rfl 24 i1 _ 24 (by kernel_rfl) hi1 hy0 hy1 hy2 rfl _ _ _ rfl (.slice _ _ _) ?_ (w.heap.size) (HV.out) ?_ ?_ rfl (by unfold maxLen; rw [evenRows_len]; omega) (by rw [evenRows_len]; omega) ?_; (focus exact congrArg (fun b => Value.slice (some ⟨b, 0, none⟩) 1 1) (by simp [go_sem])); (focus (simp [go_sem]; done)); (focus (simp [go_sem]; done)); intro gb cap' g' hown' hkeep'))
          go_roundw
          case rel =>
            refine ⟨i + 1, by omega, by go_num, (by repeat (first | exact Ext.refl _ | refine Ext.plus ?_ _ | refine Ext.alloc ?_ _ | refine Ext.drew ?_ | refine Ext.drewN ?_ _)), ?_⟩
            rw [evenRows_succ]
            rw [evenRows_len] at hown' ⊢
            have hl := own_base HLn.out (show w.heap.size ≤ _ by omega)
            have hpush := OwnMat.push (x := evenRow top bottom m i top.length) HV2.out (by have := HV.out.1; omega) (by rw [evenRow_len]; exact hl) (by decide) hkeep' (by rw [evenRows_len]; exact hown')
            exact hpush
          case measure => simp [intOf]; omega
    · obtain rfl : i = m := by omega
      obtain ⟨B, d, rfl, hB⟩ := H.out.ints
      go_wp2
      go_ret
      exact ⟨(by repeat (first | exact Ext.refl _ | refine Ext.plus ?_ _ | refine Ext.alloc ?_ _ | refine Ext.drew ?_ | refine Ext.drewN ?_ _)), B, d, rfl, hB⟩
end Go.Proofs.Ytccidiflnmchiaa
