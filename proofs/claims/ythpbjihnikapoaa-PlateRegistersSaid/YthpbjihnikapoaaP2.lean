import Derived.Test.YthpbjihnikapoaaP1
import Derived.Test.YthpbjihnikapoaaMix2
namespace Go.Proofs.Ythpbjihnikapoaa
open Go.RowKit

structure Spot where
  x : Int
  y : Int
instance : Flat Spot := ⟨fun s => [.int .i64 s.x, .int .i64 s.y], 2, fun _ => rfl⟩
instance : Inhabited Spot := ⟨⟨0, 0⟩⟩
def spot (l : List Spot) (i : Nat) : Spot := l.getD i default
theorem Arr.spot {w : World} {B : Nat} {A : Option Addr} {c : Nat} {l : List Spot} (h : Arr w B A c l) (h0 : 0 < l.length) :
    ∃ b off, A = some ⟨b, off, none⟩ ∧ b < B ∧ ∀ i, i < l.length → w.cell? ⟨b, off + i * 2, none⟩ = some (.int .i64 (spot l i).x) ∧ w.cell? ⟨b, off + i * 2 + 1, none⟩ = some (.int .i64 (spot l i).y) := by
  obtain ⟨b, off, hA, hb, hc⟩ := h.flat h0
  refine ⟨b, off, hA, hb, fun i hi => ?_⟩
  have e : Proofs.Ythpbjihnikapoaa.spot l i = l[i] := by simp [Proofs.Ythpbjihnikapoaa.spot, hi]
  rw [e]
  exact ⟨hc i hi 0 _ rfl, hc i hi 1 _ rfl⟩
structure Box where
  lx : Int
  ly : Int
  hx : Int
  hy : Int
instance : Inhabited Box := ⟨⟨0, 0, 0, 0⟩⟩
def maxI (a b : Int) : Int := if a < b then b else a
def minI (a b : Int) : Int := if b < a then b else a
def spotOk (s : Spot) : Bool := fromB (-10000) 10000 [s.x, s.y]
def pairOk (want seen : List Spot) (j : Nat) : Bool := fromB (-10000) 10000 [(spot seen j).x, (spot seen j).y, (spot want j).x, (spot want j).y]
def oneBox (want seen : List Spot) (tol : Int) (j : Nat) : Box :=
  ⟨(spot want j).x - (spot seen j).x - tol, (spot want j).y - (spot seen j).y - tol, (spot want j).x - (spot seen j).x + tol, (spot want j).y - (spot seen j).y + tol⟩
def meet (a b : Box) : Box := ⟨maxI a.lx b.lx, maxI a.ly b.ly, minI a.hx b.hx, minI a.hy b.hy⟩
/-- The box after 'k + 1' marks. -/
def boxTo (want seen : List Spot) (tol : Int) : Nat → Box
  | 0 => oneBox want seen tol 0
  | k + 1 => meet (boxTo want seen tol k) (oneBox want seen tol (k + 1))
theorem boxTo_next {want seen : List Spot} {tol : Int} {k : Nat} {x1 x2 x3 x4 a b c d : Int} (h : k ≠ 0) (hx : (⟨x1, x2, x3, x4⟩ : Box) = boxTo want seen tol (k - 1))
    (h1 : a = maxI x1 ((spot want k).x - (spot seen k).x - tol)) (h2 : c = minI x3 ((spot want k).x - (spot seen k).x + tol))
    (h3 : b = maxI x2 ((spot want k).y - (spot seen k).y - tol)) (h4 : d = minI x4 ((spot want k).y - (spot seen k).y + tol)) : (⟨a, b, c, d⟩ : Box) = boxTo want seen tol (k + 1 - 1) := by
  obtain ⟨k, rfl⟩ : ∃ j, k = j + 1 := ⟨k - 1, by omega⟩
  simp only [Nat.add_sub_cancel] at *
  subst h1 h2 h3 h4
  show _ = meet (boxTo want seen tol k) (oneBox want seen tol (k + 1))
  rw [← hx]
  rfl
def zeroBox : Box := ⟨0, 0, 0, 0⟩
def regErr (want seen : List Spot) (tol : Int) : Int :=
  if fromB 1 20 [(want.length : Int)] then
    (if decide (seen.length = want.length) && fromB 0 1000 [tol] then
      (if (List.range want.length).all (pairOk want seen) then
        (if (boxTo want seen tol (want.length - 1)).hx < (boxTo want seen tol (want.length - 1)).lx ∨ (boxTo want seen tol (want.length - 1)).hy < (boxTo want seen tol (want.length - 1)).ly then 6 else 0)
      else 2)
    else 2)
  else 4
def regBox (want seen : List Spot) (tol : Int) : Box := if regErr want seen tol = 0 then boxTo want seen tol (want.length - 1) else zeroBox

set_option maxRecDepth 100000 in
set_option maxHeartbeats 16000000 in
theorem register_c (A A' : Option Addr) (c c' : Nat) (want seen : List Spot) (tol : Int) (w : World) (h : Arr w w.heap.size A c want) (h' : Arr w w.heap.size A' c' seen) :
    Calls Try.prog 16 #[.slice A want.length c, .slice A' seen.length c', .int .i64 tol] w fun e w' => e = .returned (.tuple #[.agg #[.int .i64 (regBox want seen tol).lx, .int .i64 (regBox want seen tol).ly, .int .i64 (regBox want seen tol).hx, .int .i64 (regBox want seen tol).hy], .int .i64 (regErr want seen tol)]) ∧ Ext w w' := by
  have hle := h.le
  have hle' := h'.le
  cases h1 : fromB 1 20 [(want.length : Int)]
  · have e1 : regErr want seen tol = 4 := by unfold regErr; rw [h1]; rfl
    have e2 : regBox want seen tol = zeroBox := by unfold regBox; rw [e1]; rfl
    rw [e1, e2]
    have H1 : Hid _ := h1
    clear e1 e2 h1
    go_enter Try.func16, Try.ntmps16
    go_wp2_with fail
    refine (from1_c 1 20 _ _ _ _ (by simp [go_sem])).mono ?_
    rintro e w1 ⟨rfl, g1, rfl⟩
    rw [H1.out]
    go_wp2
    exact bodyPost_ret (v := .tuple #[.agg #[.int .i64 0, .int .i64 0, .int .i64 0, .int .i64 0], .int .i64 4]) (by simp [results, Try.results16, go_sem]) rfl ⟨rfl, (by repeat (first | exact Ext.refl _ | exact Ext.draws _ _ _ | refine Ext.plus ?_ _ | refine Ext.alloc ?_ _ | refine Ext.drew ?_ | refine Ext.drewN ?_ _))⟩
  · have H1 : Hid _ := h1
    by_cases hl : seen.length = want.length
    · have HL : Hid _ := hl
      cases h2 : fromB 0 1000 [tol]
      · have e1 : regErr want seen tol = 2 := by unfold regErr; rw [h1, h2, decide_eq_true hl]; rfl
        have e2 : regBox want seen tol = zeroBox := by unfold regBox; rw [e1]; rfl
        rw [e1, e2]
        have H2 : Hid _ := h2
        have hne : ((seen.length : Int) != (want.length : Int)) = false := by rw [bne_eq_false_iff_eq, hl]
        clear e1 e2 h1 h2 hl
        go_enter Try.func16, Try.ntmps16
        go_wp2_with fail
        refine (from1_c 1 20 _ _ _ _ (by simp [go_sem])).mono ?_
        rintro e w1 ⟨rfl, g1, rfl⟩
        rw [H1.out]
        go_wp2_with fail
        refine (from1_c 0 1000 _ _ _ _ (by simp [go_sem])).mono ?_
        rintro e w1 ⟨rfl, g2, rfl⟩
        rw [H2.out]
        go_wp2
        exact bodyPost_ret (v := .tuple #[.agg #[.int .i64 0, .int .i64 0, .int .i64 0, .int .i64 0], .int .i64 2]) (by simp [results, Try.results16, go_sem]) rfl ⟨rfl, (by repeat (first | exact Ext.refl _ | exact Ext.draws _ _ _ | refine Ext.plus ?_ _ | refine Ext.alloc ?_ _ | refine Ext.drew ?_ | refine Ext.drewN ?_ _))⟩
      · have H2 : Hid _ := h2
        have he : regErr want seen tol = if (List.range want.length).all (pairOk want seen) then
            (if (boxTo want seen tol (want.length - 1)).hx < (boxTo want seen tol (want.length - 1)).lx ∨ (boxTo want seen tol (want.length - 1)).hy < (boxTo want seen tol (want.length - 1)).ly then 6 else 0)
          else 2 := by unfold regErr; rw [h1, h2, decide_eq_true hl]; rfl
        have HE : Hid _ := he
        have hb1 : 1 ≤ want.length ∧ want.length ≤ 20 := by simp [fromB] at h1; omega
        have hb2 : 0 ≤ tol ∧ tol ≤ 1000 := by simpa [fromB] using h2
        obtain ⟨hb1, hb1'⟩ := hb1
        obtain ⟨hb2, hb2'⟩ := hb2
        have hne : ((seen.length : Int) != (want.length : Int)) = false := by rw [bne_eq_false_iff_eq, hl]
        clear he h1 h2 hl
        go_enter Try.func16, Try.ntmps16
        go_wp2_with fail
        refine (from1_c 1 20 _ _ _ _ (by simp [go_sem])).mono ?_
        rintro e w1 ⟨rfl, g1, rfl⟩
        rw [H1.out]
        go_wp2_with fail
        refine (from1_c 0 1000 _ _ _ _ (by simp [go_sem])).mono ?_
        rintro e w1 ⟨rfl, hx⟩
        obtain ⟨g, rfl⟩ : Ext (w.alloc (.cells #[.int .i64 0, .int .i64 0, .int .i64 0, .int .i64 0] 26)) w1 := Ext.trans (by repeat (first | exact Ext.refl _ | exact Ext.draws _ _ _ | refine Ext.plus ?_ _ | refine Ext.alloc ?_ _ | refine Ext.drew ?_ | refine Ext.drewN ?_ _)) hx
        rw [H2.out]
        clear hx hne
        go_wp2
        go_loopw [33] (fun t wr => ∃ (k : Nat) (x1 x2 x3 x4 : Int), k ≤ seen.length ∧ t = .int .i64 k ∧ Ext ((more (w.alloc (.cells #[.int .i64 0, .int .i64 0, .int .i64 0, .int .i64 0] 26)) g).alloc (.cells #[.int .i64 x1, .int .i64 x2, .int .i64 x3, .int .i64 x4] 26)) wr ∧ Hid (k = 0 ∨ (⟨x1, x2, x3, x4⟩ : Box) = boxTo want seen tol (k - 1)) ∧ Hid (∀ j, j < k → pairOk want seen j = true)) (fun t _ => seen.length - (intOf t).toNat)
        case atStart => exact ⟨0, 0, 0, 0, 0, by omega, rfl, (by repeat (first | exact Ext.refl _ | exact Ext.draws _ _ _ | refine Ext.plus ?_ _ | refine Ext.alloc ?_ _ | refine Ext.drew ?_ | refine Ext.drewN ?_ _)), .inl rfl, fun j hj => by omega⟩
        case round =>
          obtain ⟨k, x1, x2, x3, x4, hk, rfl, ⟨g3, rfl⟩, HB, HP⟩ := hrel
          by_cases hlt : k < seen.length
          · have hlt' : k < want.length := by rw [← HL.out]; exact hlt
            obtain ⟨b', off', rfl, hb', hc'⟩ := h'.spot (by omega)
            obtain ⟨b0, off0, rfl, hb0, hc0⟩ := h.spot (by omega)
            obtain ⟨ex, ey⟩ := hc0 k hlt'
            obtain ⟨ex', ey'⟩ := hc' k hlt
            clear hc0 hc'
            cases h3 : pairOk want seen k
            · have H3 : Hid _ := h3
              clear h3
              go_wp2_with fail
              refine (from4_c (-10000) 10000 _ _ _ _ _ _ _ (by simp [go_sem])).mono ?_
              rintro e w2 ⟨rfl, g4, rfl⟩
              rw [show fromB (-10000) 10000 [(spot seen k).x, (spot seen k).y, (spot want k).x, (spot want k).y] = false from H3.out]
              go_wp2
              have hall : (List.range want.length).all (pairOk want seen) = false := by
                rw [List.all_eq_false]
                exact ⟨k, by simpa using hlt', by rw [H3.out]; simp⟩
              have e1 : regErr want seen tol = 2 := by rw [HE.out, hall]; rfl
              have e2 : regBox want seen tol = zeroBox := by unfold regBox; rw [e1]; rfl
              rw [e1, e2]
              exact bodyPost_ret (v := .tuple #[.agg #[.int .i64 0, .int .i64 0, .int .i64 0, .int .i64 0], .int .i64 2]) (by simp [results, Try.results16, go_sem]) rfl ⟨rfl, (by repeat (first | exact Ext.refl _ | exact Ext.draws _ _ _ | refine Ext.plus ?_ _ | refine Ext.alloc ?_ _ | refine Ext.drew ?_ | refine Ext.drewN ?_ _))⟩
            · have H3 : Hid _ := h3
              have hb3 : -10000 ≤ (spot seen k).x ∧ (spot seen k).x ≤ 10000 ∧ -10000 ≤ (spot seen k).y ∧ (spot seen k).y ≤ 10000 ∧ -10000 ≤ (spot want k).x ∧ (spot want k).x ≤ 10000 ∧ -10000 ≤ (spot want k).y ∧ (spot want k).y ≤ 10000 := by
                simp [pairOk, fromB] at h3; omega
              obtain ⟨q1, q2, q3, q4, q5, q6, q7, q8⟩ := hb3
              clear h3
              go_wp2_with fail
              refine (from4_c (-10000) 10000 _ _ _ _ _ _ _ (by simp [go_sem])).mono ?_
              rintro e w2 ⟨rfl, g4, rfl⟩
              rw [show fromB (-10000) 10000 [(spot seen k).x, (spot seen k).y, (spot want k).x, (spot want k).y] = true from H3.out]
              by_cases hk0 : k = 0
              · subst hk0
                go_wp2_with fail
                (refine region_brk_np (fun w' => ∃ bb : Box, w' = ((more ((((more ((more (w.alloc (.cells #[.int .i64 0, .int .i64 0, .int .i64 0, .int .i64 0] 26)) g).alloc (.cells #[.int .i64 bb.lx, .int .i64 bb.ly, .int .i64 bb.hx, .int .i64 bb.hy] 26)) g3).alloc (.cells #[.int .i64 (spot seen 0).x, .int .i64 (spot seen 0).y] 24)).alloc (.cells #[.int .i64 (spot want 0).x, .int .i64 (spot want 0).y] 24)).alloc (.cells #[.int .i64 (spot seen 0).x, .int .i64 (spot seen 0).y, .int .i64 (spot want 0).x, .int .i64 (spot want 0).y] 3)) g4).alloc (.cells #[.int .i64 ((spot want 0).x - (spot seen 0).x - tol), .int .i64 ((spot want 0).y - (spot seen 0).y - tol), .int .i64 ((spot want 0).x - (spot seen 0).x + tol), .int .i64 ((spot want 0).y - (spot seen 0).y + tol)] 26)).drew) false [0, 1, 2, 3, 4, 5, 6, 7, 8, 9] [10, 11, 12, 13, 14, 15] 16 [([], 17), ([18], 19)] (by kernel_rfl) (by kernel_rfl) ?_ ?_; rotate_left; simp only [segs, opAt, List.map_cons, List.map_nil, wpMix]; (repeat (first | go_big_quiet_skip | (go_big_quiet_want; go_big_quiet_op; go_big_quiet_on))); refine wpQuiet_nil ?_; (repeat (first | go_big_quiet_skip | (go_big_quiet_want; go_big_quiet_op; go_big_quiet_on))); refine wpQuiet_nil ?_)
                rotate_left
                · exact ⟨⟨_, _, _, _⟩, rfl⟩
                go_wp2_with fail
                (refine ⟨⟨⟨_, _, _, _⟩, rfl⟩, ?_⟩; (repeat (first | go_big_quiet_skip | (go_big_quiet_want; go_big_quiet_op; go_big_quiet_on))); refine wpQuiet_nil ?_)
                go_wp2_with fail
                ((first | refine ⟨.inr ⟨⟨_, _, _, _⟩, rfl⟩, ?_⟩ | refine ⟨⟨⟨_, _, _, _⟩, rfl⟩, ?_⟩); (repeat (first | go_big_quiet_skip | (go_big_quiet_want; go_big_quiet_op; go_big_quiet_on))); refine wpQuiet_nil ?_)
                go_wp2_with fail
                (first | refine ⟨(by first | exact trivial | exact .inl trivial | exact .inl ⟨rfl, rfl⟩ | exact .inl ⟨trivial, trivial⟩), NoPanic.normal ?_⟩ | refine NoPanic.normal ?_ | skip)
                go_wp2_with fail
                (refine region_brk_np (fun w' => ∃ bb : Box, w' = ((more ((((more ((more (w.alloc (.cells #[.int .i64 0, .int .i64 0, .int .i64 0, .int .i64 0] 26)) g).alloc (.cells #[.int .i64 bb.lx, .int .i64 bb.ly, .int .i64 bb.hx, .int .i64 bb.hy] 26)) g3).alloc (.cells #[.int .i64 (spot seen 0).x, .int .i64 (spot seen 0).y] 24)).alloc (.cells #[.int .i64 (spot want 0).x, .int .i64 (spot want 0).y] 24)).alloc (.cells #[.int .i64 (spot seen 0).x, .int .i64 (spot seen 0).y, .int .i64 (spot want 0).x, .int .i64 (spot want 0).y] 3)) g4).alloc (.cells #[.int .i64 ((spot want 0).x - (spot seen 0).x - tol), .int .i64 ((spot want 0).y - (spot seen 0).y - tol), .int .i64 ((spot want 0).x - (spot seen 0).x + tol), .int .i64 ((spot want 0).y - (spot seen 0).y + tol)] 26)).drew.drew) false [0, 1, 2, 3, 4, 5, 6, 7, 8, 9] [10, 11, 12, 13, 14, 15] 16 [([], 17), ([18], 19)] (by kernel_rfl) (by kernel_rfl) ?_ ?_; rotate_left; simp only [segs, opAt, List.map_cons, List.map_nil, wpMix]; (repeat (first | go_big_quiet_skip | (go_big_quiet_want; go_big_quiet_op; go_big_quiet_on))); refine wpQuiet_nil ?_; (repeat (first | go_big_quiet_skip | (go_big_quiet_want; go_big_quiet_op; go_big_quiet_on))); refine wpQuiet_nil ?_)
                rotate_left
                · exact ⟨⟨_, _, _, _⟩, rfl⟩
                go_wp2_with fail
                (refine ⟨⟨⟨_, _, _, _⟩, rfl⟩, ?_⟩; (repeat (first | go_big_quiet_skip | (go_big_quiet_want; go_big_quiet_op; go_big_quiet_on))); refine wpQuiet_nil ?_)
                go_wp2_with fail
                ((first | refine ⟨.inr ⟨⟨_, _, _, _⟩, rfl⟩, ?_⟩ | refine ⟨⟨⟨_, _, _, _⟩, rfl⟩, ?_⟩); (repeat (first | go_big_quiet_skip | (go_big_quiet_want; go_big_quiet_op; go_big_quiet_on))); refine wpQuiet_nil ?_)
                go_wp2_with fail
                (first | refine ⟨(by first | exact trivial | exact .inl trivial | exact .inl ⟨rfl, rfl⟩ | exact .inl ⟨trivial, trivial⟩), NoPanic.normal ?_⟩ | refine NoPanic.normal ?_ | skip)
                go_wp2_with fail
                go_roundw
                case rel => exact ⟨1, _, _, _, _, by omega, by go_num, (by repeat (first | exact Ext.refl _ | exact Ext.draws _ _ _ | refine Ext.plus ?_ _ | refine Ext.alloc ?_ _ | refine Ext.drew ?_ | refine Ext.drewN ?_ _)), .inr rfl, fun j hj => (show j = 0 by omega) ▸ H3.out⟩
                case measure => simp [intOf]; omega
              · have HX : Hid _ := HB.out.resolve_left hk0
                go_wp2_with fail
                (refine region_brk_np (fun w' => ∃ bb : Box, w' = ((more ((((more ((more (w.alloc (.cells #[.int .i64 0, .int .i64 0, .int .i64 0, .int .i64 0] 26)) g).alloc (.cells #[.int .i64 bb.lx, .int .i64 bb.ly, .int .i64 bb.hx, .int .i64 bb.hy] 26)) g3).alloc (.cells #[.int .i64 (spot seen k).x, .int .i64 (spot seen k).y] 24)).alloc (.cells #[.int .i64 (spot want k).x, .int .i64 (spot want k).y] 24)).alloc (.cells #[.int .i64 (spot seen k).x, .int .i64 (spot seen k).y, .int .i64 (spot want k).x, .int .i64 (spot want k).y] 3)) g4).alloc (.cells #[.int .i64 ((spot want k).x - (spot seen k).x - tol), .int .i64 ((spot want k).y - (spot seen k).y - tol), .int .i64 ((spot want k).x - (spot seen k).x + tol), .int .i64 ((spot want k).y - (spot seen k).y + tol)] 26)).drew) false [0, 1, 2, 3, 4, 5, 6, 7, 8, 9] [10, 11, 12, 13, 14, 15] 16 [([], 17), ([18], 19)] (by kernel_rfl) (by kernel_rfl) ?_ ?_; rotate_left; simp only [segs, opAt, List.map_cons, List.map_nil, wpMix]; (repeat (first | go_big_quiet_skip | (go_big_quiet_want; go_big_quiet_op; go_big_quiet_on))); refine wpQuiet_nil ?_; (repeat (first | go_big_quiet_skip | (go_big_quiet_want; go_big_quiet_op; go_big_quiet_on))); refine wpQuiet_nil ?_)
                rotate_left
                · exact ⟨⟨_, _, _, _⟩, rfl⟩
                all_goals go_wp2_with fail
                all_goals (refine ⟨⟨⟨_, _, _, _⟩, rfl⟩, ?_⟩; (repeat (first | go_big_quiet_skip | (go_big_quiet_want; go_big_quiet_op; go_big_quiet_on))); refine wpQuiet_nil ?_)
                all_goals go_wp2_with fail
                all_goals ((first | refine ⟨.inr ⟨⟨_, _, _, _⟩, rfl⟩, ?_⟩ | refine ⟨⟨⟨_, _, _, _⟩, rfl⟩, ?_⟩); (repeat (first | go_big_quiet_skip | (go_big_quiet_want; go_big_quiet_op; go_big_quiet_on))); refine wpQuiet_nil ?_)
                all_goals go_wp2_with fail
                all_goals (first | refine ⟨(by first | exact trivial | exact .inl trivial | exact .inl ⟨rfl, rfl⟩ | exact .inl ⟨trivial, trivial⟩), NoPanic.normal ?_⟩ | refine NoPanic.normal ?_ | skip)
                all_goals go_wp2_with fail
                all_goals
                  (refine region_brk_np (fun w' => ∃ bb : Box, w' = ((more ((((more ((more (w.alloc (.cells #[.int .i64 0, .int .i64 0, .int .i64 0, .int .i64 0] 26)) g).alloc (.cells #[.int .i64 bb.lx, .int .i64 bb.ly, .int .i64 bb.hx, .int .i64 bb.hy] 26)) g3).alloc (.cells #[.int .i64 (spot seen k).x, .int .i64 (spot seen k).y] 24)).alloc (.cells #[.int .i64 (spot want k).x, .int .i64 (spot want k).y] 24)).alloc (.cells #[.int .i64 (spot seen k).x, .int .i64 (spot seen k).y, .int .i64 (spot want k).x, .int .i64 (spot want k).y] 3)) g4).alloc (.cells #[.int .i64 ((spot want k).x - (spot seen k).x - tol), .int .i64 ((spot want k).y - (spot seen k).y - tol), .int .i64 ((spot want k).x - (spot seen k).x + tol), .int .i64 ((spot want k).y - (spot seen k).y + tol)] 26)).drew.drew) false [0, 1, 2, 3, 4, 5, 6, 7, 8, 9] [10, 11, 12, 13, 14, 15] 16 [([], 17), ([18], 19)] (by kernel_rfl) (by kernel_rfl) ?_ ?_; rotate_left; simp only [segs, opAt, List.map_cons, List.map_nil, wpMix]; (repeat (first | go_big_quiet_skip | (go_big_quiet_want; go_big_quiet_op; go_big_quiet_on))); refine wpQuiet_nil ?_; (repeat (first | go_big_quiet_skip | (go_big_quiet_want; go_big_quiet_op; go_big_quiet_on))); refine wpQuiet_nil ?_)
                  rotate_left
                  · exact ⟨⟨_, _, _, _⟩, rfl⟩
                  all_goals go_wp2_with fail
                  all_goals (refine ⟨⟨⟨_, _, _, _⟩, rfl⟩, ?_⟩; (repeat (first | go_big_quiet_skip | (go_big_quiet_want; go_big_quiet_op; go_big_quiet_on))); refine wpQuiet_nil ?_)
                  all_goals go_wp2_with fail
                  all_goals ((first | refine ⟨.inr ⟨⟨_, _, _, _⟩, rfl⟩, ?_⟩ | refine ⟨⟨⟨_, _, _, _⟩, rfl⟩, ?_⟩); (repeat (first | go_big_quiet_skip | (go_big_quiet_want; go_big_quiet_op; go_big_quiet_on))); refine wpQuiet_nil ?_)
                  all_goals go_wp2_with fail
                  all_goals (first | refine ⟨(by first | exact trivial | exact .inl trivial | exact .inl ⟨rfl, rfl⟩ | exact .inl ⟨trivial, trivial⟩), NoPanic.normal ?_⟩ | refine NoPanic.normal ?_ | skip)
                  all_goals go_wp2_with fail
                  all_goals
                    go_roundw
                    case rel => exact ⟨k + 1, _, _, _, _, by omega, by go_num, (by repeat (first | exact Ext.refl _ | exact Ext.draws _ _ _ | refine Ext.plus ?_ _ | refine Ext.alloc ?_ _ | refine Ext.drew ?_ | refine Ext.drewN ?_ _)), .inr (boxTo_next hk0 HX.out (by simp only [maxI]; split <;> omega) (by simp only [minI]; split <;> omega) (by simp only [maxI]; split <;> omega) (by simp only [minI]; split <;> omega)), fun j hj => by
                      by_cases e : j = k
                      · rw [e]; exact H3.out
                      · exact HP.out j (by omega)⟩
                    case measure => simp [intOf]; omega
          · obtain rfl : k = seen.length := by omega
            have hbx := HB.out.resolve_left (by rw [HL.out]; omega)
            have hall : (List.range want.length).all (pairOk want seen) = true := by
              rw [List.all_eq_true]
              intro j hj
              exact HP.out j (by rw [HL.out]; simpa using hj)
            have he2 : regErr want seen tol = if x3 < x1 ∨ x4 < x2 then 6 else 0 := by rw [HE.out, hall, ← HL.out, ← hbx]; rfl
            have HX : Hid _ := hbx
            have HE2 : Hid _ := he2
            clear hall hbx he2
            by_cases h5 : x3 < x1
            · have e1 : regErr want seen tol = 6 := by rw [HE2.out, if_pos (.inl h5)]
              have e2 : regBox want seen tol = zeroBox := by unfold regBox; rw [e1]; rfl
              have E1 : Hid _ := e1
              have E2 : Hid _ := e2
              clear e1 e2
              go_wp2
              rw [E1.out, E2.out]
              exact bodyPost_ret (v := .tuple #[.agg #[.int .i64 0, .int .i64 0, .int .i64 0, .int .i64 0], .int .i64 6]) (by simp [results, Try.results16, go_sem]) rfl ⟨rfl, (by repeat (first | exact Ext.refl _ | exact Ext.draws _ _ _ | refine Ext.plus ?_ _ | refine Ext.alloc ?_ _ | refine Ext.drew ?_ | refine Ext.drewN ?_ _))⟩
            · by_cases h6 : x4 < x2
              · have e1 : regErr want seen tol = 6 := by rw [HE2.out, if_pos (.inr h6)]
                have e2 : regBox want seen tol = zeroBox := by unfold regBox; rw [e1]; rfl
                have E1 : Hid _ := e1
                have E2 : Hid _ := e2
                clear e1 e2
                go_wp2
                rw [E1.out, E2.out]
                exact bodyPost_ret (v := .tuple #[.agg #[.int .i64 0, .int .i64 0, .int .i64 0, .int .i64 0], .int .i64 6]) (by simp [results, Try.results16, go_sem]) rfl ⟨rfl, (by repeat (first | exact Ext.refl _ | exact Ext.draws _ _ _ | refine Ext.plus ?_ _ | refine Ext.alloc ?_ _ | refine Ext.drew ?_ | refine Ext.drewN ?_ _))⟩
              · have e1 : regErr want seen tol = 0 := by rw [HE2.out, if_neg (by omega)]
                have e2 : regBox want seen tol = ⟨x1, x2, x3, x4⟩ := by unfold regBox; rw [e1, HX.out, HL.out]; rfl
                have E1 : Hid _ := e1
                have E2 : Hid _ := e2
                clear e1 e2
                go_wp2
                rw [E1.out, E2.out]
                exact bodyPost_ret (v := .tuple #[.agg #[.int .i64 x1, .int .i64 x2, .int .i64 x3, .int .i64 x4], .int .i64 0]) (by simp [results, Try.results16, go_sem]) rfl ⟨rfl, (by repeat (first | exact Ext.refl _ | exact Ext.draws _ _ _ | refine Ext.plus ?_ _ | refine Ext.alloc ?_ _ | refine Ext.drew ?_ | refine Ext.drewN ?_ _))⟩
    · have e1 : regErr want seen tol = 2 := by unfold regErr; rw [h1, decide_eq_false hl]; rfl
      have e2 : regBox want seen tol = zeroBox := by unfold regBox; rw [e1]; rfl
      rw [e1, e2]
      have hne : ((seen.length : Int) != (want.length : Int)) = true := by rw [bne_iff_ne]; omega
      clear e1 e2 h1 hl
      go_enter Try.func16, Try.ntmps16
      go_wp2_with fail
      refine (from1_c 1 20 _ _ _ _ (by simp [go_sem])).mono ?_
      rintro e w1 ⟨rfl, g1, rfl⟩
      rw [H1.out]
      go_wp2
      exact bodyPost_ret (v := .tuple #[.agg #[.int .i64 0, .int .i64 0, .int .i64 0, .int .i64 0], .int .i64 2]) (by simp [results, Try.results16, go_sem]) rfl ⟨rfl, (by repeat (first | exact Ext.refl _ | exact Ext.draws _ _ _ | refine Ext.plus ?_ _ | refine Ext.alloc ?_ _ | refine Ext.drew ?_ | refine Ext.drewN ?_ _))⟩
end Go.Proofs.Ythpbjihnikapoaa
