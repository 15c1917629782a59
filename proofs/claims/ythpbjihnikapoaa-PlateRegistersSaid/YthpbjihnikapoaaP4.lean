import Derived.Test.YthpbjihnikapoaaP3
namespace Go.Proofs.Ythpbjihnikapoaa
open Go.RowKit

theorem spotsB_pair (want seen : List Spot) (j : Nat) : spotsB [spot want j, spot seen j] = pairOk want seen j := by
  rw [Bool.eq_iff_iff]
  simp [spotsB, okX, okY, withinB, pairOk, fromB]
  omega
theorem withinB_from (n lo hi : Int) : withinB n lo hi = fromB lo hi [n] := by
  rw [Bool.eq_iff_iff]
  simp [withinB, fromB]
def bigBox : Box := ⟨-1099511627776, -1099511627776, 1099511627776, 1099511627776⟩
def bigTo (want seen : List Spot) (tol : Int) : Nat → Box
  | 0 => bigBox
  | k + 1 => meet (bigTo want seen tol k) (oneBox want seen tol k)
theorem pair_bounds {want seen : List Spot} {k : Nat} (h : pairOk want seen k = true) : -10000 ≤ (spot seen k).x ∧ (spot seen k).x ≤ 10000 ∧ -10000 ≤ (spot seen k).y ∧ (spot seen k).y ≤ 10000 ∧ -10000 ≤ (spot want k).x ∧ (spot want k).x ≤ 10000 ∧ -10000 ≤ (spot want k).y ∧ (spot want k).y ≤ 10000 := by
  simp [pairOk, fromB] at h; omega
theorem bigTo_boxTo {want seen : List Spot} {tol : Int} (ht : 0 ≤ tol ∧ tol ≤ 1000) : ∀ (k : Nat), (∀ j, j < k + 1 → pairOk want seen j = true) → bigTo want seen tol (k + 1) = boxTo want seen tol k
  | 0, h => by
    obtain ⟨q1, q2, q3, q4, q5, q6, q7, q8⟩ := pair_bounds (h 0 (by omega))
    show meet bigBox (oneBox want seen tol 0) = oneBox want seen tol 0
    simp only [meet, bigBox, oneBox, maxI, minI, Box.mk.injEq]
    exact ⟨if_pos (by omega), if_pos (by omega), if_pos (by omega), if_pos (by omega)⟩
  | k + 1, h => by
    show meet (bigTo want seen tol (k + 1)) (oneBox want seen tol (k + 1)) = meet (boxTo want seen tol k) (oneBox want seen tol (k + 1))
    rw [bigTo_boxTo ht k (fun j hj => h j (by omega))]
theorem bigTo_next {want seen : List Spot} {tol : Int} {k : Nat} {x1 x2 x3 x4 a b c d : Int} (hx : (⟨x1, x2, x3, x4⟩ : Box) = bigTo want seen tol k)
    (h1 : a = maxI x1 ((spot want k).x - (spot seen k).x - tol)) (h2 : c = minI x3 ((spot want k).x - (spot seen k).x + tol))
    (h3 : b = maxI x2 ((spot want k).y - (spot seen k).y - tol)) (h4 : d = minI x4 ((spot want k).y - (spot seen k).y + tol)) : (⟨a, b, c, d⟩ : Box) = bigTo want seen tol (k + 1) := by
  subst h1 h2 h3 h4
  show _ = meet (bigTo want seen tol k) (oneBox want seen tol k)
  rw [← hx]
  rfl

set_option maxRecDepth 100000 in
set_option maxHeartbeats 16000000 in
theorem refreg_c (A A' : Option Addr) (c c' : Nat) (want seen : List Spot) (tol : Int) (w : World) (h : Arr w w.heap.size A c want) (h' : Arr w w.heap.size A' c' seen) :
    Calls Try.prog 17 #[.slice A want.length c, .slice A' seen.length c', .int .i64 tol] w fun e w' => e = .returned (.tuple #[.agg #[.int .i64 (regBox want seen tol).lx, .int .i64 (regBox want seen tol).ly, .int .i64 (regBox want seen tol).hx, .int .i64 (regBox want seen tol).hy], .int .i64 (regErr want seen tol)]) ∧ Ext w w' := by
  have hle := h.le
  have hle' := h'.le
  cases h1 : fromB 1 20 [(want.length : Int)]
  · have e1 : regErr want seen tol = 4 := by unfold regErr; rw [h1]; rfl
    have e2 : regBox want seen tol = zeroBox := by unfold regBox; rw [e1]; rfl
    rw [e1, e2]
    have H1 : Hid _ := (withinB_from _ _ _).trans h1
    clear e1 e2 h1
    go_enter Try.func17, Try.ntmps17
    go_wp2_with fail
    refine (within8_c _ _ _ _).mono ?_
    rintro e w1 ⟨rfl, g1, rfl⟩
    rw [H1.out]
    go_wp2
    exact bodyPost_ret (v := .tuple #[.agg #[.int .i64 0, .int .i64 0, .int .i64 0, .int .i64 0], .int .i64 4]) (by simp [results, Try.results17, go_sem]) rfl ⟨rfl, (by repeat (first | exact Ext.refl _ | exact Ext.draws _ _ _ | refine Ext.plus ?_ _ | refine Ext.alloc ?_ _ | refine Ext.drew ?_ | refine Ext.drewN ?_ _))⟩
  · have H1 : Hid _ := (withinB_from _ _ _).trans h1
    by_cases hl : seen.length = want.length
    · have HL : Hid _ := hl
      cases h2 : fromB 0 1000 [tol]
      · have e1 : regErr want seen tol = 2 := by unfold regErr; rw [h1, h2, decide_eq_true hl]; rfl
        have e2 : regBox want seen tol = zeroBox := by unfold regBox; rw [e1]; rfl
        rw [e1, e2]
        have H2 : Hid _ := (withinB_from _ _ _).trans h2
        have hne : ((seen.length : Int) != (want.length : Int)) = false := by rw [bne_eq_false_iff_eq, hl]
        clear e1 e2 h1 h2 hl
        go_enter Try.func17, Try.ntmps17
        go_wp2_with fail
        refine (within8_c _ _ _ _).mono ?_
        rintro e w1 ⟨rfl, g1, rfl⟩
        rw [H1.out]
        go_wp2_with fail
        refine (within8_c _ _ _ _).mono ?_
        rintro e w1 ⟨rfl, g2, rfl⟩
        rw [H2.out]
        go_wp2
        exact bodyPost_ret (v := .tuple #[.agg #[.int .i64 0, .int .i64 0, .int .i64 0, .int .i64 0], .int .i64 2]) (by simp [results, Try.results17, go_sem]) rfl ⟨rfl, (by repeat (first | exact Ext.refl _ | exact Ext.draws _ _ _ | refine Ext.plus ?_ _ | refine Ext.alloc ?_ _ | refine Ext.drew ?_ | refine Ext.drewN ?_ _))⟩
      · have H2 : Hid _ := (withinB_from _ _ _).trans h2
        have he : regErr want seen tol = if (List.range want.length).all (pairOk want seen) then
            (if (boxTo want seen tol (want.length - 1)).hx < (boxTo want seen tol (want.length - 1)).lx ∨ (boxTo want seen tol (want.length - 1)).hy < (boxTo want seen tol (want.length - 1)).ly then 6 else 0)
          else 2 := by unfold regErr; rw [h1, h2, decide_eq_true hl]; rfl
        have HE : Hid _ := he
        have hb1 : 1 ≤ want.length ∧ want.length ≤ 20 := by simp [fromB] at h1; omega
        have hb2 : 0 ≤ tol ∧ tol ≤ 1000 := by simpa [fromB] using h2
        have HT : Hid _ := hb2
        obtain ⟨hb1, hb1'⟩ := hb1
        obtain ⟨hb2, hb2'⟩ := hb2
        have hne : ((seen.length : Int) != (want.length : Int)) = false := by rw [bne_eq_false_iff_eq, hl]
        clear he h1 h2 hl
        go_enter Try.func17, Try.ntmps17
        go_wp2_with fail
        refine (within8_c _ _ _ _).mono ?_
        rintro e w1 ⟨rfl, g1, rfl⟩
        rw [H1.out]
        go_wp2_with fail
        refine (within8_c _ _ _ _).mono ?_
        rintro e w1 ⟨rfl, g2, rfl⟩
        rw [H2.out]
        clear hne
        go_wp2
        go_loopw [8] (fun t wr => ∃ (k : Nat), k ≤ want.length ∧ t = .int .i64 k ∧ Ext (w.alloc (.cells #[.int .i64 0, .int .i64 0, .int .i64 0, .int .i64 0] 26)) wr ∧ Hid (∀ j, j < k → pairOk want seen j = true)) (fun t _ => want.length - (intOf t).toNat)
        case atStart => exact ⟨0, by omega, rfl, (by repeat (first | exact Ext.refl _ | exact Ext.draws _ _ _ | refine Ext.plus ?_ _ | refine Ext.alloc ?_ _ | refine Ext.drew ?_ | refine Ext.drewN ?_ _)), fun j hj => by omega⟩
        case round =>
          obtain ⟨k, hk, rfl, ⟨g3, rfl⟩, HP⟩ := hrel
          by_cases hlt : k < want.length
          · have hlt' : k < seen.length := by rw [HL.out]; exact hlt
            obtain ⟨b', off', rfl, hb', hc'⟩ := h'.spot (by omega)
            obtain ⟨b0, off0, rfl, hb0, hc0⟩ := h.spot (by omega)
            obtain ⟨ex, ey⟩ := hc0 k hlt
            obtain ⟨ex', ey'⟩ := hc' k hlt'
            clear hc0 hc'
            cases h3 : pairOk want seen k
            · have H3 : Hid _ := (spotsB_pair want seen k).trans h3
              have hall : (List.range want.length).all (pairOk want seen) = false := by
                rw [List.all_eq_false]
                exact ⟨k, by simpa using hlt, by rw [h3]; simp⟩
              have HA : Hid _ := hall
              clear h3 hall
              go_wp2_with fail
              (refine region_mix1 true [([0, 1, 2, 3, 4, 5, 6, 7], 8), ([], 9), ([], 10)] (by kernel_rfl) (by kernel_rfl) ?_; simp only [segs, opAt, List.map_cons, List.map_nil, wpMix]; (repeat (first | go_big_quiet_skip | (go_big_quiet_want; go_big_quiet_op; go_big_quiet_on))); refine wpQuiet_nil ?_)
              go_wp2_with fail
              (refine ⟨.inr (show Ext _ _ from (by repeat (first | exact Ext.refl _ | exact Ext.draws _ _ _ | refine Ext.plus ?_ _ | refine Ext.alloc ?_ _ | refine Ext.drew ?_ | refine Ext.drewN ?_ _))), ?_⟩; (repeat (first | go_big_quiet_skip | (go_big_quiet_want; go_big_quiet_op; go_big_quiet_on))); refine wpQuiet_nil ?_)
              go_wp2_with fail
              refine (spots2_c (spot want k) (spot seen k) _ _ _ (by simp [go_sem])).mono ?_
              rintro e w2 ⟨rfl, g4, rfl⟩
              rw [H3.out]
              go_wp2_with fail
              (refine ⟨.inr (show Ext _ _ from (by repeat (first | exact Ext.refl _ | exact Ext.draws _ _ _ | refine Ext.plus ?_ _ | refine Ext.alloc ?_ _ | refine Ext.drew ?_ | refine Ext.drewN ?_ _))), ?_⟩; (repeat (first | go_big_quiet_skip | (go_big_quiet_want; go_big_quiet_op; go_big_quiet_on))); refine wpQuiet_nil ?_)
              go_wp2_with fail
              refine ⟨(by first | exact .inl trivial | exact .inl ⟨rfl, rfl⟩ | exact .inl ⟨trivial, trivial⟩ | exact .inr (show Ext _ _ from (by repeat (first | exact Ext.refl _ | exact Ext.draws _ _ _ | refine Ext.plus ?_ _ | refine Ext.alloc ?_ _ | refine Ext.drew ?_ | refine Ext.drewN ?_ _)))), NoPanic.normal ?_⟩
              go_wp2
              have e1 : regErr want seen tol = 2 := by rw [HE.out, HA.out]; rfl
              have e2 : regBox want seen tol = zeroBox := by unfold regBox; rw [e1]; rfl
              rw [e1, e2]
              exact bodyPost_ret (v := .tuple #[.agg #[.int .i64 0, .int .i64 0, .int .i64 0, .int .i64 0], .int .i64 2]) (by simp [results, Try.results17, go_sem]) rfl ⟨rfl, (by repeat (first | exact Ext.refl _ | exact Ext.draws _ _ _ | refine Ext.plus ?_ _ | refine Ext.alloc ?_ _ | refine Ext.drew ?_ | refine Ext.drewN ?_ _))⟩
            · have H3 : Hid _ := (spotsB_pair want seen k).trans h3
              have H4 : Hid _ := h3
              clear h3
              go_wp2_with fail
              (refine region_mix1 true [([0, 1, 2, 3, 4, 5, 6, 7], 8), ([], 9), ([], 10)] (by kernel_rfl) (by kernel_rfl) ?_; simp only [segs, opAt, List.map_cons, List.map_nil, wpMix]; (repeat (first | go_big_quiet_skip | (go_big_quiet_want; go_big_quiet_op; go_big_quiet_on))); refine wpQuiet_nil ?_)
              go_wp2_with fail
              (refine ⟨.inr (show Ext _ _ from (by repeat (first | exact Ext.refl _ | exact Ext.draws _ _ _ | refine Ext.plus ?_ _ | refine Ext.alloc ?_ _ | refine Ext.drew ?_ | refine Ext.drewN ?_ _))), ?_⟩; (repeat (first | go_big_quiet_skip | (go_big_quiet_want; go_big_quiet_op; go_big_quiet_on))); refine wpQuiet_nil ?_)
              go_wp2_with fail
              refine (spots2_c (spot want k) (spot seen k) _ _ _ (by simp [go_sem])).mono ?_
              rintro e w2 ⟨rfl, g4, rfl⟩
              rw [H3.out]
              go_wp2_with fail
              (refine ⟨.inr (show Ext _ _ from (by repeat (first | exact Ext.refl _ | exact Ext.draws _ _ _ | refine Ext.plus ?_ _ | refine Ext.alloc ?_ _ | refine Ext.drew ?_ | refine Ext.drewN ?_ _))), ?_⟩; (repeat (first | go_big_quiet_skip | (go_big_quiet_want; go_big_quiet_op; go_big_quiet_on))); refine wpQuiet_nil ?_)
              go_wp2_with fail
              refine ⟨(by first | exact .inl trivial | exact .inl ⟨rfl, rfl⟩ | exact .inl ⟨trivial, trivial⟩ | exact .inr (show Ext _ _ from (by repeat (first | exact Ext.refl _ | exact Ext.draws _ _ _ | refine Ext.plus ?_ _ | refine Ext.alloc ?_ _ | refine Ext.drew ?_ | refine Ext.drewN ?_ _)))), NoPanic.normal ?_⟩
              go_wp2
              go_roundw
              case rel => exact ⟨k + 1, by omega, by go_num, (by repeat (first | exact Ext.refl _ | exact Ext.draws _ _ _ | refine Ext.plus ?_ _ | refine Ext.alloc ?_ _ | refine Ext.drew ?_ | refine Ext.drewN ?_ _)), fun j hj => by
                by_cases e : j = k
                · rw [e]; exact H4.out
                · exact HP.out j (by omega)⟩
              case measure => simp [intOf]; omega
          · obtain rfl : k = want.length := by omega
            have hall : (List.range want.length).all (pairOk want seen) = true := by
              rw [List.all_eq_true]
              intro j hj
              exact HP.out j (by simpa using hj)
            have HA : Hid _ := hall
            clear hall
            go_wp2
            go_loopw [10] (fun t wr => ∃ (k : Nat) (x1 x2 x3 x4 : Int), k ≤ want.length ∧ t = .int .i64 k ∧ Ext ((more (w.alloc (.cells #[.int .i64 0, .int .i64 0, .int .i64 0, .int .i64 0] 26)) g3).alloc (.cells #[.int .i64 x1, .int .i64 x2, .int .i64 x3, .int .i64 x4] 26)) wr ∧ Hid ((⟨x1, x2, x3, x4⟩ : Box) = bigTo want seen tol k)) (fun t _ => want.length - (intOf t).toNat)
            case atStart => exact ⟨0, _, _, _, _, by omega, rfl, (by repeat (first | exact Ext.refl _ | exact Ext.draws _ _ _ | refine Ext.plus ?_ _ | refine Ext.alloc ?_ _ | refine Ext.drew ?_ | refine Ext.drewN ?_ _)), rfl⟩
            case round =>
              obtain ⟨k, x1, x2, x3, x4, hk, rfl, ⟨g4, rfl⟩, HX⟩ := hrel
              by_cases hlt : k < want.length
              · have hlt' : k < seen.length := by rw [HL.out]; exact hlt
                obtain ⟨b', off', rfl, hb', hc'⟩ := h'.spot (by omega)
                obtain ⟨b0, off0, rfl, hb0, hc0⟩ := h.spot (by omega)
                obtain ⟨ex, ey⟩ := hc0 k hlt
                obtain ⟨ex', ey'⟩ := hc' k hlt'
                clear hc0 hc'
                obtain ⟨q1, q2, q3, q4, q5, q6, q7, q8⟩ := pair_bounds (HP.out k hlt)
                go_wp2
                ((refine region_mix1 false [([0, 1, 2, 3, 4, 5, 6, 7, 8, 9, 10, 11, 12, 13, 14, 15, 16, 17, 18, 19, 20, 21, 22], 23)] (by kernel_rfl) (by kernel_rfl) ?_; simp only [segs, opAt, List.map_cons, List.map_nil, wpMix]; (repeat (first | go_big_quiet_skip | (go_big_quiet_want; go_big_quiet_op; go_big_quiet_on))); refine wpQuiet_nil ?_); go_wp2_with fail; refine ⟨(by first | exact .inl trivial | exact .inl ⟨rfl, rfl⟩ | exact .inl ⟨trivial, trivial⟩ | exact .inr (show Ext _ _ from (by repeat (first | exact Ext.refl _ | exact Ext.draws _ _ _ | refine Ext.plus ?_ _ | refine Ext.alloc ?_ _ | refine Ext.drew ?_ | refine Ext.drewN ?_ _)))), NoPanic.normal ?_⟩)
                go_wp2
                all_goals
                  go_roundw
                  case rel => exact ⟨k + 1, _, _, _, _, by omega, by go_num, (by repeat (first | exact Ext.refl _ | exact Ext.draws _ _ _ | refine Ext.plus ?_ _ | refine Ext.alloc ?_ _ | refine Ext.drew ?_ | refine Ext.drewN ?_ _)), bigTo_next HX.out (by simp only [maxI] <;> (split <;> omega)) (by simp only [minI] <;> (split <;> omega)) (by simp only [maxI] <;> (split <;> omega)) (by simp only [minI] <;> (split <;> omega))⟩
                  case measure => simp [intOf]; omega
              · obtain rfl : k = want.length := by omega
                have hbx : (⟨x1, x2, x3, x4⟩ : Box) = boxTo want seen tol (want.length - 1) := by
                  rw [← bigTo_boxTo HT.out (want.length - 1) (fun j hj => HP.out j (by omega)), show want.length - 1 + 1 = want.length by omega]
                  exact HX.out
                have he2 : regErr want seen tol = if x3 < x1 ∨ x4 < x2 then 6 else 0 := by rw [HE.out, HA.out, ← hbx]; rfl
                have HB : Hid _ := hbx
                have HE2 : Hid _ := he2
                clear hbx he2
                by_cases h5 : x3 < x1
                · go_wp2
                  have e1 : regErr want seen tol = 6 := by rw [HE2.out, if_pos (.inl h5)]
                  have e2 : regBox want seen tol = zeroBox := by unfold regBox; rw [e1]; rfl
                  rw [e1, e2]
                  exact bodyPost_ret (v := .tuple #[.agg #[.int .i64 0, .int .i64 0, .int .i64 0, .int .i64 0], .int .i64 6]) (by simp [results, Try.results17, go_sem]) rfl ⟨rfl, (by repeat (first | exact Ext.refl _ | exact Ext.draws _ _ _ | refine Ext.plus ?_ _ | refine Ext.alloc ?_ _ | refine Ext.drew ?_ | refine Ext.drewN ?_ _))⟩
                · by_cases h6 : x4 < x2
                  · go_wp2
                    have e1 : regErr want seen tol = 6 := by rw [HE2.out, if_pos (.inr h6)]
                    have e2 : regBox want seen tol = zeroBox := by unfold regBox; rw [e1]; rfl
                    rw [e1, e2]
                    exact bodyPost_ret (v := .tuple #[.agg #[.int .i64 0, .int .i64 0, .int .i64 0, .int .i64 0], .int .i64 6]) (by simp [results, Try.results17, go_sem]) rfl ⟨rfl, (by repeat (first | exact Ext.refl _ | exact Ext.draws _ _ _ | refine Ext.plus ?_ _ | refine Ext.alloc ?_ _ | refine Ext.drew ?_ | refine Ext.drewN ?_ _))⟩
                  · go_wp2
                    have e1 : regErr want seen tol = 0 := by rw [HE2.out, if_neg (by omega)]
                    have e2 : regBox want seen tol = ⟨x1, x2, x3, x4⟩ := by unfold regBox; rw [e1, HB.out]; rfl
                    rw [e1, e2]
                    exact bodyPost_ret (v := .tuple #[.agg #[.int .i64 x1, .int .i64 x2, .int .i64 x3, .int .i64 x4], .int .i64 0]) (by simp [results, Try.results17, go_sem]) rfl ⟨rfl, (by repeat (first | exact Ext.refl _ | exact Ext.draws _ _ _ | refine Ext.plus ?_ _ | refine Ext.alloc ?_ _ | refine Ext.drew ?_ | refine Ext.drewN ?_ _))⟩
    · have e1 : regErr want seen tol = 2 := by unfold regErr; rw [h1, decide_eq_false hl]; rfl
      have e2 : regBox want seen tol = zeroBox := by unfold regBox; rw [e1]; rfl
      rw [e1, e2]
      have hne : ((seen.length : Int) != (want.length : Int)) = true := by rw [bne_iff_ne]; omega
      clear e1 e2 h1 hl
      go_enter Try.func17, Try.ntmps17
      go_wp2_with fail
      refine (within8_c _ _ _ _).mono ?_
      rintro e w1 ⟨rfl, g1, rfl⟩
      rw [H1.out]
      go_wp2
      exact bodyPost_ret (v := .tuple #[.agg #[.int .i64 0, .int .i64 0, .int .i64 0, .int .i64 0], .int .i64 2]) (by simp [results, Try.results17, go_sem]) rfl ⟨rfl, (by repeat (first | exact Ext.refl _ | exact Ext.draws _ _ _ | refine Ext.plus ?_ _ | refine Ext.alloc ?_ _ | refine Ext.drew ?_ | refine Ext.drewN ?_ _))⟩
end Go.Proofs.Ythpbjihnikapoaa
